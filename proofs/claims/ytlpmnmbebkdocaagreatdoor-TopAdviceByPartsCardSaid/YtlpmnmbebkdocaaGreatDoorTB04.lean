/-
  The abstract machine: calls in regions that draw their order, and such regions as a demand that can be worked off.
  The abstract machine: code as a demand that simp can work off: what is decided is run; what is not stands still.
  The abstract machine: counted loops, and small facts about numbers.
  The abstract machine: loops whose states are told by the slots that turn; lists.
  Denotations: small facts that printed proofs use.
  Denotations: rows of cells; what the printed proofs use.
  The abstract machine: a contract over a small heap serves in every heap that holds such objects under other names.
  Calls by contracts over small heaps.
-/
import Derived.Test.YtlpmnmbebkdocaaGreatDoorTB03
open List renaming mem_of_getElem? → ua, getElem?_map → ub, all_eq_true → ud, mem_cons → ue, getElem?_eq_some_iff → ug, mem_cons_of_mem → uh, mem_flatMap → uk, getD_cons_succ → um, mem_map → un, flatMap_eq_nil_iff → ur, mem_append_right → uv, mem_append_left → uw, getD_cons_zero → ux, map_congr_left → uy, range' → uB, map_map → uD
open Option renaming map_eq_some_iff → uc
open Bool renaming and_eq_true → ul, not_eq_true' → uA, or_eq_true → uC
open Nat renaming lt_or_ge → ui, le_refl → uj, lt_of_lt_of_le → uo, not_lt → uq, le_max_right → ut, le_max_left → uu, pos_of_ne_zero → uz, blt → uE
namespace Go.Proofs.YtlpmnmbebkdocaaGreatDoor
open Go.RowKit
set_option linter.unusedSimpArgs false
set_option linter.unusedVariables false
section
theorem j6 {α β:Type} {f f':α→Option β}:∀ {l:List α},(∀ x∈l,f' x=f x)→aL f' l=aL f l
 | [],_=>rfl
 | a::r,h=>by
  simp only [aL]
  rw [h a List.mem_cons_self,j6 (l:=r) fun x hx=>h x (uh _ hx)]
def jp (h:Nat→Option aF):Nat→AV→List Nat
 | 0,_=>[]
 | d+1,x=>match x with
  | .agg cs=>cs.flatMap (jp h d)
  | .tuple cs=>cs.flatMap (jp h d)
  | .Zai id off len=>id::match h id with
   | some (.af _ af)=>((af.drop off).take len).flatMap fun row=>row.flatMap (jp h d)
   | _=>[]
  | .map id=>id::match h id with
   | some (.map es)=>es.flatMap fun e=>jp h d e.2
   | _=>[]
  | _=>[]
theorem VX {h h':Nat→Option aF}:∀ (d:Nat) (x:AV),(∀ i∈jp h d x,h' i=h i)→zD h' d x=zD h d x:=by
 intro d
 induction d with
 | zero=>intro x _;rfl
 | succ d ih=>
  intro x hi
  cases x with
  | agg cs=>
   simp only [zD]
   rw [j6 fun c hc=>ih c fun i hm=>hi i (by simp only [jp,uk];exact ⟨c,hc,hm⟩)]
  | tuple cs=>
   simp only [zD]
   rw [j6 fun c hc=>ih c fun i hm=>hi i (by simp only [jp,uk];exact ⟨c,hc,hm⟩)]
  | Zai id off len=>
   simp only [zD]
   rw [hi id (by simp [jp])]
   split
   ·rename_i sz af ho
    split
    ·rw [j6 fun row hrow=>j6 fun c hc=>ih c fun i hm=>hi i (by
      simp only [jp,ho,ue,uk]
      exact .inr ⟨row,hrow,c,hc,hm⟩)]
    ·rfl
   ·rfl
  | map id=>
   simp only [zD]
   rw [hi id (by simp [jp])]
   split
   ·rename_i es ho
    rw [j6 fun e he=>by rw [ih e.2 fun i hm=>hi i (by
     simp only [jp,ho,ue,uk]
     exact .inr ⟨e,he,hm⟩)]]
   ·rfl
  | _=>rfl
theorem Ox {h:Nat→Option aF}:∀ (d:Nat) (x:AV),xf d x=true→jp h d x=[]:=by
 intro d
 induction d with
 | zero=>intro x _;rfl
 | succ d ih=>
  intro x hx
  cases x with
  | agg cs=>
   simp only [xf,ud] at hx
   simp only [jp,ur]
   exact fun c hc=>ih c (hx c hc)
  | tuple cs=>
   simp only [xf,ud] at hx
   simp only [jp,ur]
   exact fun c hc=>ih c (hx c hc)
  | Zai id off len=>simp [xf] at hx
  | map id=>simp [xf] at hx
  | _=>rfl
section
variable {C:Ctx} {nt:Fr} {f:Nat} {args:List AV} {h0:Nat→Option aF} {d:Nat} {dA:List IV} {r:IV}
theorem dF.pure (hp:aJ C f dA r) (hm:(args.all (xf d))=true) (hx:aL (zD h0 d) args=some dA):dF C f args h0 [] (.ak r) [] []:=by
 refine ⟨hp.1,fun g h N w vs _ _ R hv => ?_⟩
 rw [Xj]
 have hx':aL (zD h d) args=some dA:=by
  rw [j6 fun x Dh=>VX (h:=h0) d x fun i hi => ?_]
  ·exact hx
  ·rw [Ox d x (ud.1 hm x Dh)] at hi;cases hi
 obtain ⟨h1,h2⟩:=ql hx'
 refine (hp.2 g.Z w vs R.ea ⟨R.fix.1,R.fix.2.1⟩ ⟨by rw [h1];exact hv.1,fun j c u hc hu => ?_⟩).mono ?_
 ·have hlt:j < args.length:=by rw [←h1];exact (ug.1 hc).1
  obtain ⟨c',h3,h4⟩:=h2 j args[j] (by simp)
  rw [hc] at h3
  cases h3
  exact FW d _ _ _ (ud.1 hm _ (List.getElem_mem hlt)) h4 (hv.2 j args[j] u (by simp) hu)
 ·rintro e w' ⟨v,Z',rfl,hr,hZ,hlt,hB⟩
  exact ⟨v,⟨g.ρ,Z'⟩,rfl,wa R hB hZ,Zz R hB hZ hlt,.ak _ _ hr⟩
theorem dF.ou (hp:aJ C f dA r) (hx:aL (zD h0 d) args=some dA) (hf:xL r=true):dF C f args h0 (args.flatMap (jp h0 d)) (.ak r) [] []:=by
 refine ⟨hp.1,fun g h N w vs hag _ R hv => ?_⟩
 rw [Xj]
 have hx':aL (zD h d) args=some dA:=by
  rw [j6 fun x Dh=>VX (h:=h0) d x fun i hi=>hag i (uk.2 ⟨x,Dh,hi⟩)]
  exact hx
 obtain ⟨h1,h2⟩:=ql hx'
 let Z1:Nat→Nat:=fun b=>match w.heap[b]? with
  | some (.cells c _ _)=>max (g.Z b) c.size
  | some (.map _ _)=>max (g.Z b) 1
  | _=>g.Z b
 have iq:∀ b,g.Z b≤Z1 b:=fun b=>by
  show g.Z b≤(match w.heap[b]? with | some (.cells c _ _)=>max (g.Z b) c.size | some (.map _ _)=>max (g.Z b) 1 | _=>g.Z b)
  split
  ·exact uu _ _
  ·exact uu _ _
  ·exact uj _
 have sy:∀ b,0 < Z1 b→b < w.heap.size:=fun b hb=>by
  rcases ui b w.heap.size with h | h
  ·exact h
  ·have hn:w.heap[b]?=none:=Array.getElem?_eq_none h
   have:Z1 b=g.Z b:=by show (match w.heap[b]? with | some (.cells c _ _)=>max (g.Z b) c.size | some (.map _ _)=>max (g.Z b) 1 | _=>g.Z b)=g.Z b;rw [hn]
   exact R.ea b (by omega)
 have hO:∀ i b sz af,g.ρ i=some b→h i=some (.af sz af)→af.length*sz≤Z1 b:=fun i b sz af hb ho=>by
  obtain ⟨hz,c,e,hc,hlen,hcells⟩:=R.obj i b _ hb ho
  have hZ:Z1 b=max (g.Z b) c.size:=by show (match w.heap[b]? with | some (.cells c _ _)=>max (g.Z b) c.size | some (.map _ _)=>max (g.Z b) 1 | _=>g.Z b)=_;rw [hc]
  rw [hZ]
  refine Nat.le_trans ?_ (ut _ _)
  rcases Nat.eq_zero_or_pos (af.length*sz) with h0 | h0
  ·omega
  ·have hs:0 < sz:=uz fun e=>by subst e;simp at h0
   have hr:0 < af.length:=uz fun e=>by rw [e] at h0;simp at h0
   have hrow:af[af.length - 1]?=some (af[af.length - 1]'(by omega)):=by simp
   have hl:=hlen _ _ hrow
   obtain ⟨cv,h3,_⟩:=hcells (af.length - 1) _ (sz - 1) ((af[af.length - 1]'(by omega))[sz - 1]'(by omega)) hrow (by simp)
   have hlt:=(Array.getElem?_eq_some_iff.1 h3).1
   have:(af.length - 1)*sz+sz=af.length*sz:=by
    rw [←Nat.succ_mul];congr 1;omega
   omega
 have hM:∀ i b es,g.ρ i=some b→h i=some (.map es)→0 < Z1 b:=fun i b es hb ho=>by
  obtain ⟨hz,cG,clock,hw,_⟩:=R.obj i b _ hb ho
  have hZ:Z1 b=max (g.Z b) 1:=by show (match w.heap[b]? with | some (.cells c _ _)=>max (g.Z b) c.size | some (.map _ _)=>max (g.Z b) 1 | _=>g.Z b)=_;rw [hw]
  rw [hZ]
  exact uo Nat.zero_lt_one (ut _ _)
 refine (hp.2 Z1 w vs sy ⟨R.fix.1,R.fix.2.1⟩ ⟨by rw [h1];exact hv.1,fun j c u hc hu => ?_⟩).mono ?_
 ·have hlt:j < args.length:=by rw [←h1];exact (ug.1 hc).1
  obtain ⟨c',h3,h4⟩:=h2 j args[j] (by simp)
  rw [hc] at h3
  cases h3
  exact Y7 R Z1 iq hO hM d _ _ _ h4 (hv.2 j args[j] u (by simp) hu)
 ·rintro e w' ⟨v,Z',rfl,hr,hZ,hlt,hB⟩
  exact ⟨v,g,rfl,wa (Z':=g.Z) R hB (fun _ _=>rfl),Zz (Z':=g.Z) R hB (fun _ _=>rfl) (fun b hb=>uo (R.ea b hb) hB.size),.ak _ _ (FX hf hr)⟩
end
def gb (C:Ctx) (f:Nat) (args:List AV) (heap:List (Nat×aF)) (KD:List Nat→AV→List (Nat×aF)→Prop):Prop:=∃ rd r aN,dF C f args (za heap) rd r aN []∧KD rd r aN
theorem gb.pure {C:Ctx} {f:Nat} {args:List AV} {heap:List (Nat×aF)} {d:Nat} {dA:List IV} {r:IV} {KD:List Nat→AV→List (Nat×aF)→Prop} (hp:aJ C f dA r) (hm:(args.all (xf d))=true) (hx:aL (zD (za heap) d) args=some dA)
 (hK:KD [] (.ak r) []):gb C f args heap KD:=⟨_,_,_,dF.pure hp hm hx,hK⟩
theorem gb.ou {C:Ctx} {f:Nat} {args:List AV} {heap:List (Nat×aF)} {d:Nat} {dA:List IV} {r:IV} {KD:List Nat→AV→List (Nat×aF)→Prop} (hp:aJ C f dA r) (hx:aL (zD (za heap) d) args=some dA) (hf:xL r=true)
 (hK:KD (args.flatMap (jp (za heap) d)) (.ak r) []):gb C f args heap KD:=⟨_,_,_,dF.ou hp hx hf,hK⟩
def xj (ord:List Nat) (j:Nat) (W R:List (Nat×Nat)) (us rd:List Nat):Bool:=
 (W.all fun p=>!(us.contains p.2||rd.contains p.2)||ef ord p.1 j)&&us.all fun x=>R.all fun p=>!(p.2 == x)||ef ord p.1 j
def q7 (j:Nat) (l:List Nat) (W:List (Nat×Nat)):List (Nat×Nat):=l.map (fun x=>(j,x))++W
def oy (ord:List Nat) (j:Nat) (W R:List (Nat×Nat)) (dst:Option Nat) (st:St) (next:Nat→List (Nat×Nat)→List (Nat×Nat)→St→Prop):List Nat→AV→List (Nat×aF)→Prop:=
 fun rd r aN=>xj ord j W R (z8 aN) rd=true∧next (j+1) (q7 j (z8 aN) W) (q7 j rd R) (st.after dst r aN)
def BU (dst:Option Nat) (st:St) (next:St→Prop):List Nat→AV→List (Nat×aF)→Prop:=fun rd r aN=>aN=[]∧next (st.after dst r [])
def qv (KD:List Nat→AV→List (Nat×aF)→Prop) (rd:List Nat):Option (AV×List (Nat×aF))→Prop
 | some (r,aN)=>KD rd r aN
 | none=>False
def BV (C:Ctx) (KD:List Nat→AV→List (Nat×aF)→Prop) (heap:List (Nat×aF)) (args:List AV):AV→Prop
 | .func f first bq=>gb C f (first++args++bq) heap KD
 | _=>False
def dZ (C:Ctx) (KD:List Nat→AV→List (Nat×aF)→Prop) (st:St):cP→Prop
 | .call f args=>BV C KD st.heap (args.map (zd st.env)) (zd st.env f)
 | op=>qv KD (zj op (zd st.env)) (ai op (zd st.env) (za st.heap) st.next)
def dG (C:Ctx) (op:cP) (KD:List Nat→AV→List (Nat×aF)→Prop) (st:St):Bool→Prop
 | true=>dZ C KD st op
 | false=>KD [] .undef []
def sD (C:Ctx) (op:cP) (KD:List Nat→AV→List (Nat×aF)→Prop) (st:St) (want:Bool):AV→Prop
 | .ak (.bool b)=>dG C op KD st (b == want)
 | .undef=>dG C op KD st false
 | _=>False
def rB (C:Ctx) (it:aM) (KD:List Nat→AV→List (Nat×aF)→Prop) (st:St):Prop:=match it.guard with
 | none=>dZ C KD st it.op
 | some (t,want)=>sD C it.op KD st want ((za st.env t).getD .top)
def lB (C:Ctx) (ord:List Nat) (K:St→Prop):List aM→Nat→List (Nat×Nat)→List (Nat×Nat)→St→Prop
 | [],_,_,_,st=>K st
 | it::rest,j,W,R,st=>rB C it (oy ord j W R it.dst st (lB C ord K rest)) st
def rC (C:Ctx) (K:St→Prop):List aM→St→Prop
 | [],st=>K st
 | it::rest,st=>rB C it (BU it.dst st (rC C K rest)) st
section
variable {C:Ctx} {nt:Fr}
theorem F6 {it:aM} {KD:List Nat→AV→List (Nat×aF)→Prop} {st:St} (h:rB C it KD st):∃ rc:Rec,rc.dst=it.dst∧nj C it st rc∧KD rc.rd rc.r rc.aN∧rc.ex=[]:=by
 have op:∀ {g},qd st.env it.guard=some true→g=it.guard→dZ C KD st it.op→∃ rc:Rec,rc.dst=it.dst∧nj C it st rc∧KD rc.rd rc.r rc.aN∧rc.ex=[]:=fun hg _ ho=>by
  obtain ⟨dst,op,gd⟩:=it
  simp only at ho hg
  cases op
  case call f args=>
   simp only [dZ,BV] at ho
   split at ho
   ·rename_i f' first bq hf
    obtain ⟨rd,r,aN,hl,hk⟩:=ho
    refine ⟨⟨dst,r,aN,rd,[]⟩,rfl,?_,hk,rfl⟩
    simp only [nj,hg,hf]
    exact hl
   ·exact ho.elim
  all_goals
   simp only [dZ,qv] at ho
   split at ho
   ·rename_i r aN gZ
    refine ⟨⟨dst,r,aN,_,[]⟩,rfl,?_,ho,rfl⟩
    simp only [nj,hg]
    exact ⟨gZ,rfl,trivial⟩
   ·exact ho.elim
 have off:qd st.env it.guard=some false→KD [] .undef []→∃ rc:Rec,rc.dst=it.dst∧nj C it st rc∧KD rc.rd rc.r rc.aN∧rc.ex=[]:=fun hg ho=>by
  refine ⟨⟨it.dst,.undef,[],[],[]⟩,rfl,?_,ho,rfl⟩
  simp only [nj,hg,and_self]
 unfold rB at h
 split at h
 ·rename_i hg;exact op (by rw [hg];rfl) hg.symm h
 ·rename_i t want hg
  unfold sD at h
  split at h
  ·rename_i b hb
   cases mK:(b == want) with
   | true=>rw [mK] at h;exact op (by rw [hg];simp only [qd,hb,mK]) hg.symm h
   | false=>rw [mK] at h;exact off (by rw [hg];simp only [qd,hb,mK]) h
  ·rename_i hb;exact off (by rw [hg];simp only [qd,hb]) h
  ·exact h.elim
theorem Vc {ord:List Nat} {recs:List Rec} (h:∀ (i j:Nat) (ri rj:Rec),recs[i]?=some ri→recs[j]?=some rj→i < j→jU ri rj=true→ef ord i j=true):Jl ord recs=true:=by
 unfold Jl
 refine ud.2 fun j hj => ?_
 split
 ·rename_i rj lQ
  refine Bool.or_eq_true_iff.2 (.inr (ud.2 fun i hi => ?_))
  simp at hi
  split
  ·rename_i ri gl
   cases hc:jU ri rj with
   | true=>simp [h i j ri rj gl lQ hi hc]
   | false=>simp
  ·rfl
 ·rfl
theorem F7 {ord:List Nat} {K:St→Prop}:∀ (items:List aM) (W R:List (Nat×Nat)) (st:St) (pre:List Rec),lB C ord K items pre.length W R st →
  (∀ (i:Nat) (ri:Rec) (x:Nat),pre[i]?=some ri→x∈z8 ri.aN→(i,x)∈W)→(∀ (i:Nat) (ri:Rec) (x:Nat),pre[i]?=some ri→x∈ri.rd→(i,x)∈R) →
  (∀ (i j:Nat) (ri rj:Rec),pre[i]?=some ri→pre[j]?=some rj→i < j→jU ri rj=true→ef ord i j=true) →
  ∃ recs aY,Qz C items st recs aY∧(∀ (i j:Nat) (ri rj:Rec),(pre++recs)[i]?=some ri→(pre++recs)[j]?=some rj→i < j→jU ri rj=true→ef ord i j=true)∧K aY∧∀ rc∈recs,rc.ex=[]
 | [],W,R,st,pre,h,hW,hR,hp=>⟨[],st,rfl,by simpa using hp,h,by simp⟩
 | it::rest,W,R,st,pre,h,hW,hR,hp=>by
  obtain ⟨rc,h1,h2,⟨hok,h3⟩,hx0⟩:=F6 h
  have hlen:(pre++[rc]).length=pre.length+1:=by simp
  have split:∀ (i:Nat) (ri:Rec),(pre++[rc])[i]?=some ri→pre[i]?=some ri∨(i=pre.length∧ri=rc):=fun i ri hi=>by
   rw [List.getElem?_append] at hi
   split at hi
   ·exact .inl hi
   ·rename_i hge
    rcases Nat.eq_or_lt_of_le (Nat.le_of_not_lt hge) with e | e
    ·rw [←e] at hi;simp at hi;exact .inr ⟨e.symm,hi.symm⟩
    ·have:i - pre.length≠0:=by omega
     obtain ⟨m,hm⟩:=Nat.exists_eq_succ_of_ne_zero this
     rw [hm] at hi;simp at hi
  obtain ⟨recs,aY,h4,h5,h6,hx1⟩:=F7 rest (q7 pre.length (z8 rc.aN) W) (q7 pre.length rc.rd R) (st.after it.dst rc.r rc.aN) (pre++[rc]) (by rw [hlen];exact h3)
   (fun i ri x hi hx=>by
    rcases split i ri hi with hi | ⟨rfl,rfl⟩
    ·exact uv _ (hW i ri x hi hx)
    ·exact uw _ (un.2 ⟨x,hx,rfl⟩))
   (fun i ri x hi hx=>by
    rcases split i ri hi with hi | ⟨rfl,rfl⟩
    ·exact uv _ (hR i ri x hi hx)
    ·exact uw _ (un.2 ⟨x,hx,rfl⟩))
   (fun i j ri rj hi hj hlt hc=>by
    rcases split j rj hj with hj | ⟨rfl,rfl⟩
    ·rcases split i ri hi with hi | ⟨rfl,rfl⟩
     ·exact hp i j ri rj hi hj hlt hc
     ·have:=(ug.1 hj).1;omega
    ·rcases split i ri hi with hi | ⟨rfl,rfl⟩
     ·simp only [xj,ul,ud] at hok
      simp only [jU,uC,List.any_eq_true] at hc
      rcases hc with ⟨x,hx,hc⟩ | ⟨x,hx,hc⟩
      ·have:=hok.1 (i,x) (hW i ri x hi hx)
       simp only [uC,uA,Bool.or_eq_false_iff] at this
       rcases this with ⟨h7,h8⟩ | h7
       ·simp only [h7,h8] at hc;simp at hc
       ·exact h7
      ·have:=hok.2 x hx (i,x) (hR i ri x hi (by simpa using hc))
       simpa using this
     ·omega)
  refine ⟨rc::recs,aY,⟨h1,h2,h4⟩,?_,h6,fun r hr => ?_⟩
  ·simpa using h5
  ·rcases ue.1 hr with rfl | hr
   ·exact hx0
   ·exact hx1 r hr
theorem F8 {K:St→Prop}:∀ (items:List aM) (st:St),rC C K items st→∃ recs aY,Qz C items st recs aY∧(∀ rc∈recs,rc.aN=[])∧K aY∧∀ rc∈recs,rc.ex=[]
 | [],st,h=>⟨[],st,rfl,by simp,h,by simp⟩
 | it::rest,st,h=>by
  obtain ⟨rc,h1,h2,⟨hu,h3⟩,hx0⟩:=F6 h
  obtain ⟨recs,aY,h4,h5,h6,hx1⟩:=F8 rest _ h3
  refine ⟨rc::recs,aY,⟨h1,h2,by rw [hu];exact h4⟩,fun r hr => ?_,h6,fun r hr => ?_⟩
  ·rcases ue.1 hr with rfl | hr
   ·exact hu
   ·exact h5 r hr
  ·rcases ue.1 hr with rfl | hr
   ·exact hx0
   ·exact hx1 r hr
theorem F9 {n0:Nat} {recs:List Rec} (h:∀ rc∈recs,rc.ex=[]):Y9 n0 recs:=by
 constructor
 ·intro k rc i hk hi
  rw [h rc (ua hk)] at hi;cases hi
 ·intro k l rk rl i hk _ hi
  rw [h rk (ua hk)] at hi;cases hi
def Wh (items:List aM):Bool:=items.all fun it=>match it.op with
 | .alloc _ _ | .box _ _ | .cY _ _ _ _ | .store _ _ _ | .fc | .upd _ _ _ _ | .mks _ _ _ _ | .app _ _ _ _ | .copy _ _ _=>false
 | _=>true
theorem Oy {C:bA} {ord:List Nat} {items:List aM} {ks:Option (List Nat)} {K:Exit→St→Prop} {st:St} (h:lB C ord (fun aY=>K .normal (aY.keep ks)) items 0 [] [] st):cD C nt (.region true ord items ks) K st:=by
 obtain ⟨recs,aY,h1,h2,h3,h4⟩:=F7 (ord:=ord) items [] [] st [] h (by simp) (by simp) (by simp)
 exact Vb h1 (Vc (by simpa using h2)) (F9 h4) aY.next (uj _) (fun rc hr i hi=>by rw [h4 rc hr] at hi;cases hi) h3
theorem Oz {C:bA} {ord:List Nat} {items:List aM} {ks:Option (List Nat)} {K:Exit→St→Prop} {st:St} (h:rC C (fun aY=>K .normal (aY.keep ks)) items st):cD C nt (.region true ord items ks) K st:=by
 obtain ⟨recs,aY,h1,h2,h3,h4⟩:=F8 items st h
 refine Vb h1 (Vc fun i j ri rj hi hj hlt hc => ?_) (F9 h4) aY.next (uj _) (fun rc hr i hi=>by rw [h4 rc hr] at hi;cases hi) h3
 simp [jU,z8,h2 ri (ua hi),h2 rj (ua hj)] at hc
end
end
section
def yu (dst:Option Nat) (env:List (Nat×AV)) (K:St→Prop):AV→List (Nat×aF)→Nat→Prop:=fun r heap' next'=>K (St.put {env:=env,heap:=heap',next:=next'+1} dst r)
def qc (dst:Option Nat) (K:St→Prop) (st:St):Option (AV×List (Nat×aF))→Prop
 | some (r,aN)=>K (st.after dst r aN)
 | none=>False
def VY (C:bA) (dst:Option Nat) (K:St→Prop) (st:St) (args:List AV):AV→Prop
 | .func f first bq=>bJ C f (first++args++bq) st.heap st.next (yu dst st.env K)
 | .eE l id=>C.Y l id args st.heap st.next (yu dst st.env K)
 | _=>False
def cj (C:bA) (dst:Option Nat) (K:St→Prop) (st:St):cP→Prop
 | .call f args=>VY C dst K st (args.map (zd st.env)) (zd st.env f)
 | op=>qc dst K st (ai op (zd st.env) (za st.heap) st.next)
def tP (C:bA) (dst:Option Nat) (op:cP) (K:St→Prop) (st:St):Bool→Prop
 | true=>cj C dst K st op
 | false=>K (st.after dst .undef [])
def Xl (C:bA) (dst:Option Nat) (op:cP) (K:St→Prop) (st:St) (want:Bool):AV→Prop
 | .ak (.bool b)=>tP C dst op K st (b == want)
 | .undef=>tP C dst op K st false
 | _=>False
def Xm (C:bA) (it:aM) (K:St→Prop) (st:St):Prop:=match it.guard with
 | none=>cj C it.dst K st it.op
 | some (t,want)=>Xl C it.dst it.op K st want ((za st.env t).getD .top)
theorem Ga (C:bA) (dst:Option Nat) (op:cP) (g:Option (Nat×Bool)) (K:St→Prop) (st:St) (hg:qd st.env g=some true):vS C ⟨dst,op,g⟩ st K=cj C dst K st op:=by
 unfold vS
 rw [hg]
 cases op
 case call f args=>
  simp only [cj]
  cases zd st.env f<;>rfl
 all_goals
  simp only [cj]
  generalize ai _ _ _ _=r
  rcases r with _ | ⟨r,aN⟩<;>rfl
theorem OA (C:bA) (it:aM) (K:St→Prop) (st:St) (h:Xm C it K st):vS C it st K:=by
 obtain ⟨dst,op,g⟩:=it
 unfold Xm at h
 split at h
 ·rename_i hg
  simp only at hg
  subst hg
  rw [Ga C dst op none K st rfl]
  exact h
 ·rename_i t want hg
  simp only at hg
  subst hg
  unfold Xl at h
  split at h
  ·rename_i b hb
   cases mK:(b == want) with
   | true=>
    rw [mK] at h
    rw [Ga C dst op _ K st (by simp only [qd,hb,mK])]
    exact h
   | false=>
    rw [mK] at h
    unfold vS
    simp only [qd,hb,mK]
    exact h
  ·rename_i hb
   unfold vS
   simp only [qd,hb]
   exact h
  ·exact h.elim
def l9 (C:bA):List aM→(St→Prop)→St→Prop
 | [],K,st=>K st
 | it::rest,K,st=>Xm C it (l9 C rest K) st
theorem Zm (C:bA):∀ (l:List aM) (K:St→Prop) (st:St),l9 C l K st→AB C l K st
 | [],K,st,h=>h
 | it::rest,K,st,h=>by
  have:l9 C rest K=l9 C rest K:=rfl
  have h1:=OA C it _ st h
  simp only [AB]
  unfold vS at h1 ⊢
  split
  ·rename_i hg;rw [hg] at h1;exact Zm C rest K _ h1
  ·rename_i hg
   rw [hg] at h1
   simp only at h1
   split
   ·rename_i f args hop
    rw [hop] at h1
    simp only at h1
    split
    ·rename_i hf
     rw [hf] at h1
     exact bJ.mono (fun r h n hk=>Zm C rest K _ hk) h1
    ·rename_i l id hf
     rw [hf] at h1
     exact C.og _ _ _ _ _ _ _ (fun r h n hk=>Zm C rest K _ hk) h1
    ·rename_i hf Di
     split at h1
     ·rename_i f' first bq Dj;exact absurd Dj (hf _ _ _)
     ·rename_i l id Dj;exact absurd Dj (Di _ _)
     ·exact h1
   ·rename_i hop
    split at h1
    ·rename_i f args h3;exact absurd h3 (hop _ _)
    ·split
     ·rename_i r aN gZ;rw [gZ] at h1;exact Zm C rest K _ h1
     ·rename_i gZ;rw [gZ] at h1;exact h1
  ·rename_i hg;rw [hg] at h1;exact h1
def AM (b:AV) (x y:St→Prop) (st:St):Prop:=match b with
 | .ak (.bool true)=>x st
 | .ak (.bool false)=>y st
 | _=>False
def ZD (ks:Option (List Nat)) (K:Exit→St→Prop):St→Prop:=fun st=>K .normal (st.keep ks)
def tQ (C:bA) (b:Bool) (ord:List Nat) (items:List aM) (K:St→Prop) (st:St):Prop:=match b with
 | true=>rC C K items st
 | false=>lB C ord K items 0 [] [] st
def gp (C:bA) (nt:Fr):cB→(Exit→St→Prop)→St→Prop
 | .skip,K,st=>K .normal st
 | .region false _ items ks,K,st=>l9 C items (ZD ks K) st
 | .region true ord items ks,K,st=>tQ C (Wh items) ord items (ZD ks K) st
 | .seq x y,K,st=>gp C nt x (vT (gp C nt y K) K) st
 | .cond c x y,K,st=>AM (zd st.env c) (gp C nt x K) (gp C nt y K) st
 | .block id x,K,st=>gp C nt x (xR id K) st
 | .loop x,K,st=>cD C nt (.loop x) K st
 | .scope x,K,st=>C.ro=none∧gp C nt x (QG K) st
 | .range f ps x y,K,st=>cD C nt (.range f ps x y) K st
 | .exit id,K,st=>K (.exit id) st
 | .ret,K,st=>K .ret st
theorem vw {C:bA} {nt:Fr}:∀ {c:cB} {K:Exit→St→Prop} {st:St},gp C nt c K st→cD C nt c K st
 | .skip,K,st,h=>Zy h
 | .region false _ items ks,K,st,h=>VR (Zm C items _ st h)
 | .region true ord items ks,K,st,h=>by
  simp only [gp,tQ] at h
  split at h
  ·exact Oz h
  ·exact Oy h
 | .seq x y,K,st,h=>by
  have h1:cD C nt x (vT (gp C nt y K) K) st:=vw (c:=x) h
  refine qk (qP (fun e aY hk => ?_) h1)
  cases e with
  | normal=>exact vw (c:=y) hk
  | _=>exact hk
 | .cond c x y,K,st,h=>by
  simp only [gp,AM] at h
  split at h
  ·rename_i hb;exact xy true hb (fun _=>vw h) (fun h=>by cases h)
  ·rename_i hb;exact xy false hb (fun h=>by cases h) (fun _=>vw h)
  ·exact h.elim
 | .block id x,K,st,h=>vt (vw (c:=x) h)
 | .loop x,K,st,h=>h
 | .scope x,K,st,h=>K9 h.1 (vw (c:=x) h.2)
 | .range f ps x y,K,st,h=>h
 | .exit id,K,st,h=>Jj h
 | .ret,K,st,h=>Wg h
section
variable {C:bA} {nt:Fr} {env:List (Nat×AV)} {heap:List (Nat×aF)} {next:Nat} {dst:Option Nat} {K:St→Prop} {KE:Exit→St→Prop} {st:St}
@[simp] theorem zpi:gp C nt .skip KE st=KE .normal st:=rfl
@[simp] theorem znt (o:List Nat) (items:List aM) (ks:Option (List Nat)):gp C nt (.region false o items ks) KE st=l9 C items (ZD ks KE) st:=rfl
@[simp] theorem zpj (o:List Nat) (items:List aM) (ks:Option (List Nat)):gp C nt (.region true o items ks) KE st=tQ C (Wh items) o items (ZD ks KE) st:=rfl
@[simp] theorem zpk (o:List Nat) (items:List aM):tQ C true o items K st=rC C K items st:=rfl
@[simp] theorem zoH (o:List Nat) (items:List aM):tQ C false o items K st=lB C o K items 0 [] [] st:=rfl
@[simp] theorem zp7 (x y:cB):gp C nt (.seq x y) KE st=gp C nt x (vT (gp C nt y KE) KE) st:=rfl
@[simp] theorem zpl (c:bf) (x y:cB):gp C nt (.cond c x y) KE st=AM (zd st.env c) (gp C nt x KE) (gp C nt y KE) st:=rfl
@[simp] theorem zoI (id:Nat) (x:cB):gp C nt (.block id x) KE st=gp C nt x (xR id KE) st:=rfl
@[simp] theorem zpm (id:Nat):gp C nt (.exit id) KE st=KE (.exit id) st:=rfl
@[simp] theorem zp8:gp C nt .ret KE st=KE .ret st:=rfl
@[simp] theorem zpn (x y:St→Prop):AM (.ak (.bool true)) x y st=x st:=rfl
@[simp] theorem zoJ (x y:St→Prop):AM (.ak (.bool false)) x y st=y st:=rfl
@[simp] theorem znl (n:St→Prop):vT n KE .normal st=n st:=rfl
@[simp] theorem zoK (n:St→Prop) (id:Nat):vT n KE (.exit id) st=KE (.exit id) st:=rfl
@[simp] theorem zpo (n:St→Prop):vT n KE .ret st=KE .ret st:=rfl
@[simp] theorem zj9 (id:Nat):xR id KE .normal st=KE .normal st:=rfl
@[simp] theorem znm (id:Nat):xR id KE .ret st=KE .ret st:=rfl
@[simp] theorem OB (id id':Nat):xR id KE (.exit id') st=if id'=id then KE .normal st else KE (.exit id') st:=rfl
@[simp] theorem zka:QG KE .normal st=KE .normal st:=rfl
@[simp] theorem zli (id:Nat):QG KE (.exit id) st=KE (.exit id) st:=rfl
@[simp] theorem znn:QG KE .ret st=KE .ret st:=rfl
@[simp] theorem Xn (ks:List Nat):ZD (some ks) KE ⟨env,heap,next⟩=KE .normal ⟨qG ks env,heap,next⟩:=rfl
@[simp] theorem zoL:ZD none KE st=KE .normal st:=rfl
@[simp] theorem zno (ks:List Nat):qG ks []=[]:=rfl
@[simp] theorem zlj (ks:List Nat) (k:Nat) (v:AV) (r:List (Nat×AV)):qG ks ((k,v)::r)=bif ks.contains k then (k,v)::qG ks r else qG ks r:=by
 simp only [qG,List.filter_cons];cases ks.contains k<;>rfl
@[simp] theorem Gb:l9 C [] K st=K st:=rfl
@[simp] theorem Jo (it:aM) (r:List aM):l9 C (it::r) K st=Xm C it (l9 C r K) st:=rfl
@[simp] theorem Qc (op:cP):Xm C ⟨dst,op,none⟩ K st=cj C dst K st op:=rfl
@[simp] theorem zoM (op:cP) (t:Nat) (want:Bool):Xm C ⟨dst,op,some (t,want)⟩ K st=Xl C dst op K st want ((za st.env t).getD .top):=rfl
@[simp] theorem znu (op:cP) (want:Bool):Xl C dst op K st want .undef=K (st.after dst .undef []):=rfl
@[simp] theorem zoN (op:cP) (b:Bool):Xl C dst op K st true (.ak (.bool b))=tP C dst op K st b:=by simp [Xl]
@[simp] theorem znv (op:cP) (b:Bool):Xl C dst op K st false (.ak (.bool b))=tP C dst op K st (!b):=by cases b<;>rfl
@[simp] theorem zpp (op:cP):tP C dst op K st true=cj C dst K st op:=rfl
@[simp] theorem zoO (op:cP):tP C dst op K st false=K (st.after dst .undef []):=rfl
@[simp] theorem kW (r:AV) (aN:List (Nat×aF)):qc dst K st (some (r,aN))=K (st.after dst r aN):=rfl
@[simp] theorem znw:qc dst K st none=False:=rfl
@[simp] theorem Gc (f:bf) (args:List bf):cj C dst K ⟨env,heap,next⟩ (.call f args)=VY C dst K ⟨env,heap,next⟩ (args.map (zd env)) (zd env f):=rfl
@[simp] theorem WV (args:List AV) (f:Nat) (first bq:List AV):VY C dst K ⟨env,heap,next⟩ args (.func f first bq)=bJ C f (first++args++bq) heap next (yu dst env K):=rfl
@[simp] theorem Xo (d:Nat) (r:AV) (heap':List (Nat×aF)) (next':Nat):yu (some d) env K r heap' next'=K ⟨zk env d r,heap',next'+1⟩:=rfl
@[simp] theorem zlk (r:AV) (heap':List (Nat×aF)) (next':Nat):yu none env K r heap' next'=K ⟨env,heap',next'+1⟩:=rfl
@[simp] theorem kX (d:Nat) (r:AV) (aN:List (Nat×aF)):St.after ⟨env,heap,next⟩ (some d) r aN=⟨zk env d r,zL aN heap,next+1⟩:=rfl
@[simp] theorem znx (r:AV) (aN:List (Nat×aF)):St.after ⟨env,heap,next⟩ none r aN=⟨env,zL aN heap,next+1⟩:=rfl
@[simp] theorem vV:zL [] heap=heap:=rfl
@[simp] theorem JX (k:Nat) (o:aF) (r:List (Nat×aF)):zL ((k,o)::r) heap=zo (zL r heap) k o:=rfl
@[simp] theorem zoP {α:Type} (i:Nat) (v:α):zo [] i v=[(i,v)]:=rfl
@[simp] theorem zny {α:Type} (k i:Nat) (v u:α) (r:List (Nat×α)):zo ((k,v)::r) i u=if k=i then (i,u)::r else if k=999999 then (i,u)::(k,v)::r else (k,v)::zo r i u:=rfl
@[simp] theorem Gd {α:Type} (i:Nat):za ([]:List (Nat×α)) i=none:=rfl
@[simp] theorem kY {α:Type} (k i:Nat) (v:α) (r:List (Nat×α)):za ((k,v)::r) i=if k=i then some v else za r i:=rfl
@[simp] theorem Qd {α:Type} (i:Nat) (v:α):zk [] i v=[(i,v)]:=rfl
@[simp] theorem kZ {α:Type} (k i:Nat) (v u:α) (r:List (Nat×α)):zk ((k,v)::r) i u=if k=i then (i,u)::r else (k,v)::zk r i u:=rfl
@[simp] theorem Ge (n:Nat):zd env (.t n)=(za env n).getD .top:=rfl
@[simp] theorem zp9 (x:AV):zd env (.c x)=x:=rfl
@[simp] theorem znz (i:Nat):jn i []=[]:=rfl
@[simp] theorem znp (i:Nat) (x:AV) (xs:List AV):jn i (x::xs)=(i,x)::jn (i+1) xs:=rfl
@[simp] theorem zpq {α β:Type} (f:α→Option β):aL f []=some []:=rfl
@[simp] theorem zoQ {α β:Type} (f:α→Option β) (a:α) (r:List α):aL f (a::r)=match f a with
 | some b=>match aL f r with
  | some bs=>some (b::bs)
  | none=>none
 | none=>none:=rfl
def Jp (KA:AV→List (Nat×aF)→Nat→Prop) (heap:List (Nat×aF)) (next:Nat):Option AV→Prop
 | some r=>KA r heap next
 | none=>False
def Za (rs:List dD) (KA:AV→List (Nat×aF)→Nat→Prop):Exit→St→Prop
 | .ret,st | .normal,st=>Jp KA st.heap st.next (jd rs st)
 | _,_=>False
theorem bJ.run {C:Ctx} {f:Nat} {F:dz} (hF:qr C f=some F.erase) {args:List AV} {KA:AV→List (Nat×aF)→Nat→Prop} (hn:args.length≤F.nt)
 (h:∀ B,gp C.plain ⟨F.nt,B⟩ F.body (Za F.results KA) {env:=jn 0 args,heap:=heap,next:=next}):bJ C f args heap next KA:=bJ.enter hF hn (fun B=>qP (fun e st hk=>by
  have key:∀ {o:Option AV},Jp KA st.heap st.next o→∃ r,o=some r∧KA r st.heap st.next:=fun {o} ho=>by
   cases o with
   | none=>exact ho.elim
   | some r=>exact ⟨r,rfl,ho⟩
  cases e with
  | ret=>exact ⟨.inl rfl,key hk⟩
  | normal=>exact ⟨.inr rfl,key hk⟩
  | _=>exact hk.elim) (vw (h B)))
def Xp (d:Nat) (r:IV):AV→List (Nat×aF)→Nat→Prop:=fun x heap _=>zD (za heap) d x=some r
@[simp] theorem zqa (d:Nat) (r:IV) (x:AV):Xp d r x heap next=(zD (za heap) d x=some r):=rfl
theorem aJ.run {C:Ctx} {f:Nat} {F:dz} (hF:qr C f=some F.erase) {args:List IV} {r:IV} (d:Nat) (hn:args.length≤F.nt)
 (h:∀ B,gp C.plain ⟨F.nt,B⟩ F.body (Za F.results (Xp d r)) {env:=jn 0 (args.map .ak),heap:=[],next:=0}):aJ C f args r:=aJ.of (d:=d) (bJ.run hF (by simpa using hn) h)
variable {KA:AV→List (Nat×aF)→Nat→Prop}
@[simp] theorem zoR (rs:List dD):Za rs KA .ret ⟨env,heap,next⟩=Jp KA heap next (jd rs ⟨env,heap,next⟩):=rfl
@[simp] theorem zll (rs:List dD):Za rs KA .normal ⟨env,heap,next⟩=Jp KA heap next (jd rs ⟨env,heap,next⟩):=rfl
@[simp] theorem zoS (r:AV):Jp KA heap next (some r)=KA r heap next:=rfl
@[simp] theorem zoT:Jp KA heap next none=False:=rfl
@[simp] theorem zoU (r:dD):jd [r] st=wM st r:=rfl
@[simp] theorem zoV:jd [] st=some (.tuple []):=rfl
@[simp] theorem zoW (r s:dD) (l:List dD):jd (r::s::l) st=match aL (wM st) (r::s::l) with
 | some xs=>some (.tuple xs)
 | none=>none:=rfl
@[simp] theorem znA (t:Nat):wM ⟨env,heap,next⟩ (.tmp t)=za env t:=rfl
@[simp] theorem znq (t n:Nat) (ag:Bool):wM ⟨env,heap,next⟩ (.cell t ag n)=match ai (.load ag n (.t t)) (zd env) (za heap) 0 with
 | some (r,_)=>some r
 | none=>none:=rfl
@[simp] theorem Gf (x:bf):cj C dst K ⟨env,heap,next⟩ (.dl x)=qc dst K ⟨env,heap,next⟩ (ai (.dl x) (zd env) (za heap) next):=rfl
@[simp] theorem zoX (c a b:bf):cj C dst K ⟨env,heap,next⟩ (.pick c a b)=qc dst K ⟨env,heap,next⟩ (ai (.pick c a b) (zd env) (za heap) next):=rfl
@[simp] theorem znB (sz:Nat) (af:List (List AV)):cj C dst K ⟨env,heap,next⟩ (.alloc sz af)=qc dst K ⟨env,heap,next⟩ (ai (.alloc sz af) (zd env) (za heap) next):=rfl
@[simp] theorem zpr (sz:Nat) (x:bf):cj C dst K ⟨env,heap,next⟩ (.box sz x)=qc dst K ⟨env,heap,next⟩ (ai (.box sz x) (zd env) (za heap) next):=rfl
@[simp] theorem znC (zero:List AV) (parts:List (Nat×Nat×bf)):cj C dst K ⟨env,heap,next⟩ (.build zero parts)=qc dst K ⟨env,heap,next⟩ (ai (.build zero parts) (zd env) (za heap) next):=rfl
@[simp] theorem znr (sz:Nat) (zero:List AV) (len:Nat) (parts:List (Nat×bf)):cj C dst K ⟨env,heap,next⟩ (.cY sz zero len parts)=qc dst K ⟨env,heap,next⟩ (ai (.cY sz zero len parts) (zd env) (za heap) next):=rfl
@[simp] theorem zoY (agg:Bool) (n:Nat) (x:bf):cj C dst K ⟨env,heap,next⟩ (.load agg n x)=qc dst K ⟨env,heap,next⟩ (ai (.load agg n x) (zd env) (za heap) next):=rfl
@[simp] theorem znD (n:Nat) (x v:bf):cj C dst K ⟨env,heap,next⟩ (.store n x v)=qc dst K ⟨env,heap,next⟩ (ai (.store n x v) (zd env) (za heap) next):=rfl
@[simp] theorem zps (off:Nat) (x:bf):cj C dst K ⟨env,heap,next⟩ (.nS off x)=qc dst K ⟨env,heap,next⟩ (ai (.nS off x) (zd env) (za heap) next):=rfl
@[simp] theorem zpt (sz:Nat) (x i:bf):cj C dst K ⟨env,heap,next⟩ (.idx sz x i)=qc dst K ⟨env,heap,next⟩ (ai (.idx sz x i) (zd env) (za heap) next):=rfl
@[simp] theorem zoZ (len sz:Nat) (x i:bf):cj C dst K ⟨env,heap,next⟩ (.idxa len sz x i)=qc dst K ⟨env,heap,next⟩ (ai (.idxa len sz x i) (zd env) (za heap) next):=rfl
@[simp] theorem zpu (op:BinOp) (x y:bf):cj C dst K ⟨env,heap,next⟩ (.bin op x y)=qc dst K ⟨env,heap,next⟩ (ai (.bin op x y) (zd env) (za heap) next):=rfl
@[simp] theorem zpv (neg:Bool) (x y:bf):cj C dst K ⟨env,heap,next⟩ (.oT neg x y)=qc dst K ⟨env,heap,next⟩ (ai (.oT neg x y) (zd env) (za heap) next):=rfl
@[simp] theorem zpw (neg:Bool) (ks:List Nat) (x y:bf):cj C dst K ⟨env,heap,next⟩ (.eqs neg ks x y)=qc dst K ⟨env,heap,next⟩ (ai (.eqs neg ks x y) (zd env) (za heap) next):=rfl
@[simp] theorem znE (neg:Bool) (x y:bf):cj C dst K ⟨env,heap,next⟩ (.eZ neg x y)=qc dst K ⟨env,heap,next⟩ (ai (.eZ neg x y) (zd env) (za heap) next):=rfl
@[simp] theorem zpx (x:bf):cj C dst K ⟨env,heap,next⟩ (.not x)=qc dst K ⟨env,heap,next⟩ (ai (.not x) (zd env) (za heap) next):=rfl
@[simp] theorem zpy (x:bf):cj C dst K ⟨env,heap,next⟩ (.neg x)=qc dst K ⟨env,heap,next⟩ (ai (.neg x) (zd env) (za heap) next):=rfl
@[simp] theorem zo0 (k:IntKind) (x:bf):cj C dst K ⟨env,heap,next⟩ (.conv k x)=qc dst K ⟨env,heap,next⟩ (ai (.conv k x) (zd env) (za heap) next):=rfl
@[simp] theorem zpz (x:bf):cj C dst K ⟨env,heap,next⟩ (.len x)=qc dst K ⟨env,heap,next⟩ (ai (.len x) (zd env) (za heap) next):=rfl
@[simp] theorem zo1 (x:bf):cj C dst K ⟨env,heap,next⟩ (.lens x)=qc dst K ⟨env,heap,next⟩ (ai (.lens x) (zd env) (za heap) next):=rfl
@[simp] theorem zo2 (x:bf):cj C dst K ⟨env,heap,next⟩ (.ic x)=qc dst K ⟨env,heap,next⟩ (ai (.ic x) (zd env) (za heap) next):=rfl
@[simp] theorem zqb (max:Bool) (x y:bf):cj C dst K ⟨env,heap,next⟩ (.mm max x y)=qc dst K ⟨env,heap,next⟩ (ai (.mm max x y) (zd env) (za heap) next):=rfl
@[simp] theorem zpA (sz bL:Nat) (s x:bf):cj C dst K ⟨env,heap,next⟩ (.app sz bL s x)=qc dst K ⟨env,heap,next⟩ (ai (.app sz bL s x) (zd env) (za heap) next):=rfl
@[simp] theorem zpB (x:bf) (i:Nat):cj C dst K ⟨env,heap,next⟩ (.ext x i)=qc dst K ⟨env,heap,next⟩ (ai (.ext x i) (zd env) (za heap) next):=rfl
@[simp] theorem zpC (f:Nat) (first bq:List bf):cj C dst K ⟨env,heap,next⟩ (.pu f first bq)=qc dst K ⟨env,heap,next⟩ (ai (.pu f first bq) (zd env) (za heap) next):=rfl
@[simp] theorem znF  : cj C dst K ⟨env,heap,next⟩ (.fc)=qc dst K ⟨env,heap,next⟩ (ai (.fc) (zd env) (za heap) next):=rfl
@[simp] theorem zo3 (str:Bool) (zero:AV) (ok:Bool) (m k:bf):cj C dst K ⟨env,heap,next⟩ (.look str zero ok m k)=qc dst K ⟨env,heap,next⟩ (ai (.look str zero ok m k) (zd env) (za heap) next):=rfl
@[simp] theorem zpD (str:Bool) (m k v:bf):cj C dst K ⟨env,heap,next⟩ (.upd str m k v)=qc dst K ⟨env,heap,next⟩ (ai (.upd str m k v) (zd env) (za heap) next):=rfl
@[simp] theorem zpE (sz bL:Nat) (zero:List AV) (n:bf):cj C dst K ⟨env,heap,next⟩ (.mks sz bL zero n)=qc dst K ⟨env,heap,next⟩ (ai (.mks sz bL zero n) (zd env) (za heap) next):=rfl
@[simp] theorem zpF (sz:Nat) (x:bf) (lo hi:Option bf):cj C dst K ⟨env,heap,next⟩ (.slc sz x lo hi)=qc dst K ⟨env,heap,next⟩ (ai (.slc sz x lo hi) (zd env) (za heap) next):=rfl
@[simp] theorem zo4 (neg:Bool) (x y:bf):cj C dst K ⟨env,heap,next⟩ (.eqnm neg x y)=qc dst K ⟨env,heap,next⟩ (ai (.eqnm neg x y) (zd env) (za heap) next):=rfl
@[simp] theorem zpG (ag:Bool) (off n:Nat) (x:bf):cj C dst K ⟨env,heap,next⟩ (.cut ag off n x)=qc dst K ⟨env,heap,next⟩ (ai (.cut ag off n x) (zd env) (za heap) next):=rfl
@[simp] theorem zpH (x:bf):cj C dst K ⟨env,heap,next⟩ (.oU x)=qc dst K ⟨env,heap,next⟩ (ai (.oU x) (zd env) (za heap) next):=rfl
@[simp] theorem zo5 (sz:Nat) (d x:bf):cj C dst K ⟨env,heap,next⟩ (.copy sz d x)=qc dst K ⟨env,heap,next⟩ (ai (.copy sz d x) (zd env) (za heap) next):=rfl
@[simp] theorem zpI (len sz:Nat) (x i:bf):cj C dst K ⟨env,heap,next⟩ (.ixa len sz x i)=qc dst K ⟨env,heap,next⟩ (ai (.ixa len sz x i) (zd env) (za heap) next):=rfl
end
section
variable {C:bA} {nt:Fr} {env:List (Nat×AV)} {heap:List (Nat×aF)} {next:Nat} {dst:Option Nat} {K:St→Prop} {KD:List Nat→AV→List (Nat×aF)→Prop} {st:St}
@[simp] theorem zqc (ord:List Nat) (j:Nat) (W R:List (Nat×Nat)):lB C ord K [] j W R st=K st:=rfl
@[simp] theorem Gg (ord:List Nat) (it:aM) (r:List aM) (j:Nat) (W R:List (Nat×Nat)):lB C ord K (it::r) j W R st=rB C it (oy ord j W R it.dst st (lB C ord K r)) st:=rfl
@[simp] theorem zqd:rC C K [] st=K st:=rfl
@[simp] theorem zpJ (it:aM) (r:List aM):rC C K (it::r) st=rB C it (BU it.dst st (rC C K r)) st:=rfl
@[simp] theorem Gi (op:cP):rB C ⟨dst,op,none⟩ KD st=dZ C KD st op:=rfl
@[simp] theorem zpK (op:cP) (t:Nat) (want:Bool):rB C ⟨dst,op,some (t,want)⟩ KD st=sD C op KD st want ((za st.env t).getD .top):=rfl
@[simp] theorem zo6 (op:cP) (want:Bool):sD C op KD st want .undef=KD [] .undef []:=rfl
@[simp] theorem zpL (op:cP) (b:Bool):sD C op KD st true (.ak (.bool b))=dG C op KD st b:=by simp [sD]
@[simp] theorem zo7 (op:cP) (b:Bool):sD C op KD st false (.ak (.bool b))=dG C op KD st (!b):=by cases b<;>rfl
@[simp] theorem zqe (op:cP):dG C op KD st true=dZ C KD st op:=rfl
@[simp] theorem zpM (op:cP):dG C op KD st false=KD [] .undef []:=rfl
@[simp] theorem zo8 (rd:List Nat) (r:AV) (aN:List (Nat×aF)):qv KD rd (some (r,aN))=KD rd r aN:=rfl
@[simp] theorem zo9 (rd:List Nat):qv KD rd none=False:=rfl
@[simp] theorem zpN (ord:List Nat) (j:Nat) (W R:List (Nat×Nat)) (nx:Nat→List (Nat×Nat)→List (Nat×Nat)→St→Prop) (rd:List Nat) (r:AV) (aN:List (Nat×aF)) :
 oy ord j W R dst st nx rd r aN=(xj ord j W R (z8 aN) rd=true∧nx (j+1) (q7 j (z8 aN) W) (q7 j rd R) (st.after dst r aN)):=rfl
@[simp] theorem zpa (nx:St→Prop) (rd:List Nat) (r:AV):BU dst st nx rd r []=nx (st.after dst r []):=by simp [BU]
@[simp] theorem zpO (f:bf) (args:List bf):dZ C KD ⟨env,heap,next⟩ (.call f args)=BV C KD heap (args.map (zd env)) (zd env f):=rfl
@[simp] theorem znG (args:List AV) (f:Nat) (first bq:List AV):BV C KD heap args (.func f first bq)=gb C f (first++args++bq) heap KD:=rfl
@[simp] theorem zqf (x:bf):dZ C KD ⟨env,heap,next⟩ (.dl x)=qv KD (zj (.dl x) (zd env)) (ai (.dl x) (zd env) (za heap) next):=rfl
@[simp] theorem zpP (c a b:bf):dZ C KD ⟨env,heap,next⟩ (.pick c a b)=qv KD (zj (.pick c a b) (zd env)) (ai (.pick c a b) (zd env) (za heap) next):=rfl
@[simp] theorem zpb (sz:Nat) (af:List (List AV)):dZ C KD ⟨env,heap,next⟩ (.alloc sz af)=qv KD (zj (.alloc sz af) (zd env)) (ai (.alloc sz af) (zd env) (za heap) next):=rfl
@[simp] theorem zqg (sz:Nat) (x:bf):dZ C KD ⟨env,heap,next⟩ (.box sz x)=qv KD (zj (.box sz x) (zd env)) (ai (.box sz x) (zd env) (za heap) next):=rfl
@[simp] theorem zpc (zero:List AV) (parts:List (Nat×Nat×bf)):dZ C KD ⟨env,heap,next⟩ (.build zero parts)=qv KD (zj (.build zero parts) (zd env)) (ai (.build zero parts) (zd env) (za heap) next):=rfl
@[simp] theorem znH (sz:Nat) (zero:List AV) (len:Nat) (parts:List (Nat×bf)):dZ C KD ⟨env,heap,next⟩ (.cY sz zero len parts)=qv KD (zj (.cY sz zero len parts) (zd env)) (ai (.cY sz zero len parts) (zd env) (za heap) next):=rfl
@[simp] theorem zpQ (agg:Bool) (n:Nat) (x:bf):dZ C KD ⟨env,heap,next⟩ (.load agg n x)=qv KD (zj (.load agg n x) (zd env)) (ai (.load agg n x) (zd env) (za heap) next):=rfl
@[simp] theorem zpd (n:Nat) (x v:bf):dZ C KD ⟨env,heap,next⟩ (.store n x v)=qv KD (zj (.store n x v) (zd env)) (ai (.store n x v) (zd env) (za heap) next):=rfl
@[simp] theorem zqh (off:Nat) (x:bf):dZ C KD ⟨env,heap,next⟩ (.nS off x)=qv KD (zj (.nS off x) (zd env)) (ai (.nS off x) (zd env) (za heap) next):=rfl
@[simp] theorem zqi (sz:Nat) (x i:bf):dZ C KD ⟨env,heap,next⟩ (.idx sz x i)=qv KD (zj (.idx sz x i) (zd env)) (ai (.idx sz x i) (zd env) (za heap) next):=rfl
@[simp] theorem zpR (len sz:Nat) (x i:bf):dZ C KD ⟨env,heap,next⟩ (.idxa len sz x i)=qv KD (zj (.idxa len sz x i) (zd env)) (ai (.idxa len sz x i) (zd env) (za heap) next):=rfl
@[simp] theorem zqj (op:BinOp) (x y:bf):dZ C KD ⟨env,heap,next⟩ (.bin op x y)=qv KD (zj (.bin op x y) (zd env)) (ai (.bin op x y) (zd env) (za heap) next):=rfl
@[simp] theorem zqk (neg:Bool) (x y:bf):dZ C KD ⟨env,heap,next⟩ (.oT neg x y)=qv KD (zj (.oT neg x y) (zd env)) (ai (.oT neg x y) (zd env) (za heap) next):=rfl
@[simp] theorem zql (neg:Bool) (ks:List Nat) (x y:bf):dZ C KD ⟨env,heap,next⟩ (.eqs neg ks x y)=qv KD (zj (.eqs neg ks x y) (zd env)) (ai (.eqs neg ks x y) (zd env) (za heap) next):=rfl
@[simp] theorem zpe (neg:Bool) (x y:bf):dZ C KD ⟨env,heap,next⟩ (.eZ neg x y)=qv KD (zj (.eZ neg x y) (zd env)) (ai (.eZ neg x y) (zd env) (za heap) next):=rfl
@[simp] theorem zqm (x:bf):dZ C KD ⟨env,heap,next⟩ (.not x)=qv KD (zj (.not x) (zd env)) (ai (.not x) (zd env) (za heap) next):=rfl
@[simp] theorem zqn (x:bf):dZ C KD ⟨env,heap,next⟩ (.neg x)=qv KD (zj (.neg x) (zd env)) (ai (.neg x) (zd env) (za heap) next):=rfl
@[simp] theorem zpS (k:IntKind) (x:bf):dZ C KD ⟨env,heap,next⟩ (.conv k x)=qv KD (zj (.conv k x) (zd env)) (ai (.conv k x) (zd env) (za heap) next):=rfl
@[simp] theorem zqo (x:bf):dZ C KD ⟨env,heap,next⟩ (.len x)=qv KD (zj (.len x) (zd env)) (ai (.len x) (zd env) (za heap) next):=rfl
@[simp] theorem zpT (x:bf):dZ C KD ⟨env,heap,next⟩ (.lens x)=qv KD (zj (.lens x) (zd env)) (ai (.lens x) (zd env) (za heap) next):=rfl
@[simp] theorem zpU (x:bf):dZ C KD ⟨env,heap,next⟩ (.ic x)=qv KD (zj (.ic x) (zd env)) (ai (.ic x) (zd env) (za heap) next):=rfl
@[simp] theorem zqy (max:Bool) (x y:bf):dZ C KD ⟨env,heap,next⟩ (.mm max x y)=qv KD (zj (.mm max x y) (zd env)) (ai (.mm max x y) (zd env) (za heap) next):=rfl
@[simp] theorem zqp (sz bL:Nat) (s x:bf):dZ C KD ⟨env,heap,next⟩ (.app sz bL s x)=qv KD (zj (.app sz bL s x) (zd env)) (ai (.app sz bL s x) (zd env) (za heap) next):=rfl
@[simp] theorem zqq (x:bf) (i:Nat):dZ C KD ⟨env,heap,next⟩ (.ext x i)=qv KD (zj (.ext x i) (zd env)) (ai (.ext x i) (zd env) (za heap) next):=rfl
@[simp] theorem zqr (f:Nat) (first bq:List bf):dZ C KD ⟨env,heap,next⟩ (.pu f first bq)=qv KD (zj (.pu f first bq) (zd env)) (ai (.pu f first bq) (zd env) (za heap) next):=rfl
@[simp] theorem zpf  : dZ C KD ⟨env,heap,next⟩ (.fc)=qv KD (zj (.fc) (zd env)) (ai (.fc) (zd env) (za heap) next):=rfl
@[simp] theorem zpV (str:Bool) (zero:AV) (ok:Bool) (m k:bf):dZ C KD ⟨env,heap,next⟩ (.look str zero ok m k)=qv KD (zj (.look str zero ok m k) (zd env)) (ai (.look str zero ok m k) (zd env) (za heap) next):=rfl
@[simp] theorem zqs (str:Bool) (m k v:bf):dZ C KD ⟨env,heap,next⟩ (.upd str m k v)=qv KD (zj (.upd str m k v) (zd env)) (ai (.upd str m k v) (zd env) (za heap) next):=rfl
@[simp] theorem zqt (sz bL:Nat) (zero:List AV) (n:bf):dZ C KD ⟨env,heap,next⟩ (.mks sz bL zero n)=qv KD (zj (.mks sz bL zero n) (zd env)) (ai (.mks sz bL zero n) (zd env) (za heap) next):=rfl
@[simp] theorem zqu (sz:Nat) (x:bf) (lo hi:Option bf):dZ C KD ⟨env,heap,next⟩ (.slc sz x lo hi)=qv KD (zj (.slc sz x lo hi) (zd env)) (ai (.slc sz x lo hi) (zd env) (za heap) next):=rfl
@[simp] theorem zpW (neg:Bool) (x y:bf):dZ C KD ⟨env,heap,next⟩ (.eqnm neg x y)=qv KD (zj (.eqnm neg x y) (zd env)) (ai (.eqnm neg x y) (zd env) (za heap) next):=rfl
@[simp] theorem zqv (ag:Bool) (off n:Nat) (x:bf):dZ C KD ⟨env,heap,next⟩ (.cut ag off n x)=qv KD (zj (.cut ag off n x) (zd env)) (ai (.cut ag off n x) (zd env) (za heap) next):=rfl
@[simp] theorem zqw (x:bf):dZ C KD ⟨env,heap,next⟩ (.oU x)=qv KD (zj (.oU x) (zd env)) (ai (.oU x) (zd env) (za heap) next):=rfl
@[simp] theorem zpX (sz:Nat) (d x:bf):dZ C KD ⟨env,heap,next⟩ (.copy sz d x)=qv KD (zj (.copy sz d x) (zd env)) (ai (.copy sz d x) (zd env) (za heap) next):=rfl
@[simp] theorem zqx (len sz:Nat) (x i:bf):dZ C KD ⟨env,heap,next⟩ (.ixa len sz x i)=qv KD (zj (.ixa len sz x i) (zd env)) (ai (.ixa len sz x i) (zd env) (za heap) next):=rfl
end
end
section
section
variable {C:bA} {nt:Fr} {x:cB} {K:Exit→St→Prop} {st:St}
end
@[simp] theorem zjG {α:Type} {p:α→Prop}:(∀ x∈([]:List α),p x)=True:=by simp
theorem qw {x:Int} (h1 : -9223372036854775808≤x) (h2:x < 9223372036854775808):IntKind.i64.wrap x=x:=by
 simp [IntKind.wrap,IntKind.bits,IntKind.signed,Int.bmod_def]
 omega
theorem OC {x:Int} (h1:0≤x) (h2:x < 18446744073709551616):IntKind.u64.wrap x=x:=by
 simp [IntKind.wrap,IntKind.bits,IntKind.signed]
 omega
end
section
def VZ {α:Type}:List (Nat×α)→List (Nat×α)→List (Nat×α)
 | [],l=>l
 | (k,v)::r,l=>VZ r (zk l k v)
@[simp] theorem znI {α:Type} (l:List (Nat×α)):VZ [] l=l:=rfl
@[simp] theorem zns {α:Type} (k:Nat) (v:α) (r l:List (Nat×α)):VZ ((k,v)::r) l=VZ r (zk l k v):=rfl
section
variable {C:bA} {nt:Fr} {x:cB} {K:Exit→St→Prop}
end
end
section
theorem jy {α β:Type} {x:Option α} {f:α→Option β} {r:β} (h:x.bind f=some r):∃ a,x=some a∧f a=some r:=Option.bind_eq_some_iff.1 h
def ze {α:Type} (l:List α) (n:Int):Option α:=if 0≤n then l[n.toNat]? else none
theorem Xq {α:Type} {l:List α} {n:Int} {e:α} (h:ze l n=some e):0≤n∧l[n.toNat]?=some e∧n.toNat < l.length∧n < l.length∧∃ h:n.toNat < l.length,l[n.toNat]=e:=by
 unfold ze at h;split at h
 ·obtain ⟨h1,h2⟩:=ug.1 h
  exact ⟨‹_›,h,h1,by omega,h1,h2⟩
 ·cases h
theorem OD {α:Type} {b:Bool} {x y:Option α} {r:α} (h:(bif b then x else y)=some r):(b=true∧x=some r)∨(b=false∧y=some r):=by
 cases b
 ·exact .inr ⟨rfl,h⟩
 ·exact .inl ⟨rfl,h⟩
theorem yv {C:bA} {nt:Fr} {o:List Nat} {items:List aM} {ks:Option (List Nat)} {K:Exit→St→Prop} {st:St} (h:l9 C items (ZD ks K) st):cD C nt (.region false o items ks) K st:=
 VR (Zm C items _ st h)
theorem Gj {C:bA} {nt:Fr} {o:List Nat} {items:List aM} {ks:Option (List Nat)} {K:Exit→St→Prop} {st:St} (h:tQ C (Wh items) o items (ZD ks K) st):cD C nt (.region true o items ks) K st:=
 vw h
theorem Gk {C:bA} {nt:Fr} {c:bf} {x y:cB} {K:Exit→St→Prop} {st:St} (b:Bool) (hc:zd st.env c=.ak (.bool b)) (h1:b=true→cD C nt x K st) (h2:b=false→cD C nt y K st):cD C nt (.cond c x y) K st:=
 xy b hc h1 h2
theorem Gl {id:Nat} {K:Exit→St→Prop} {st:St} (h:K .normal st):xR id K (.exit id) st:=by
 simp only [OB,if_true];exact h
def bG {σ ρ:Type} (f:Nat→σ→Option (σ ⊕ ρ)):Nat→Nat→σ→Option (σ ⊕ ρ)
 | _,0,s=>some (.inl s)
 | i,k+1,s=>match f i s with
  | none=>none
  | some (.inr r)=>some (.inr r)
  | some (.inl s')=>bG f (i+1) k s'
def aD {σ ρ:Type} (n:Int) (f:Nat→σ→Option (σ ⊕ ρ)) (s:σ):Option (σ ⊕ ρ):=bif uE n.toNat 4611686018427387904 then bG f 0 n.toNat s else none
theorem ZE {σ ρ:Type} {n:Int} {f:Nat→σ→Option (σ ⊕ ρ)} {s:σ} (hn:n < 4611686018427387904):aD n f s=bG f 0 n.toNat s:=by
 have:uE n.toNat 4611686018427387904=true:=by simp only [Nat.blt_eq];omega
 unfold aD;rw [this];rfl
theorem Xr {σ ρ:Type} {n:Int} {f:Nat→σ→Option (σ ⊕ ρ)} {s:σ} {o:σ ⊕ ρ} (h:aD n f s=some o):n < 4611686018427387904∧bG f 0 n.toNat s=some o:=by
 unfold aD at h
 cases hb:uE n.toNat 4611686018427387904 with
 | true=>rw [hb] at h;simp only [Nat.blt_eq] at hb;exact ⟨by omega,h⟩
 | false=>rw [hb] at h;cases h
def BW {σ ρ:Type} (W:σ→St) (K:Exit→St→Prop) (out:σ ⊕ ρ) (o:σ ⊕ ρ):Exit→St→Prop
 | .normal,st=>∃ s',o=.inl s'∧bR st (W s')
 | e,st=>∃ y,o=.inr y∧(out=.inr y→K e st)
theorem OE {C:bA} {nt:Fr} {x:cB} {K:Exit→St→Prop} {st:St} {σ ρ:Type} {n:Int} {f:Nat→σ→Option (σ ⊕ ρ)} {s0:σ} {out:σ ⊕ ρ} (hl:aD n f s0=some out)
  (E:Nat→σ→List (Nat×AV)) (H:Nat→σ→List (Nat×aF)) (h0:bR st ⟨E 0 s0,H 0 s0,st.next⟩)
  (body:∀ (i:Nat) (s:σ) (o:σ ⊕ ρ),(i:Int) < n→IntKind.i64.wrap ((i:Int)+1)=(i:Int)+1→f i s=some o→cD C nt x (BW (fun s=>⟨E (i+1) s,H (i+1) s,st.next⟩) K out o) ⟨E i s,H i s,st.next⟩)
  (last:∀ (m:Nat) (s:σ),¬ (m:Int) < n→out=.inl s→cD C nt x (vT (fun _=>False) K) ⟨E m s,H m s,st.next⟩):cD C nt (.loop x) K st:=by
 obtain ⟨hn,hl⟩:=Xr hl
 refine Jk (ι:={p:Nat×σ // p.1≤n.toNat∧bG f p.1 (n.toNat - p.1) p.2=some out}) (fun p=>⟨E p.1.1 p.1.2,H p.1.1 p.1.2,st.next⟩) (fun p=>n.toNat - p.1.1) ⟨(0,s0),Nat.zero_le _,hl⟩ (fun _=>uj _) h0 (uj _) ?_
 rintro ⟨⟨i,s⟩,hi,hf⟩
 simp only at hi hf
 rcases ui i n.toNat with h | h
 ·obtain ⟨k,hk⟩:∃ k,n.toNat - i=k+1:=⟨n.toNat - i - 1,by omega⟩
  rw [hk] at hf
  simp only [bG] at hf
  split at hf
  ·cases hf
  ·rename_i r hr
   cases hf
   refine qP ?_ (body i s _ (by omega) (qw (by omega) (by omega)) hr)
   intro e aY hK
   cases e with
   | normal=>obtain ⟨s',h1,_⟩:=hK;cases h1
   | _=>obtain ⟨y,h1,h2⟩:=hK;cases h1;exact h2 rfl
  ·rename_i s' hr
   refine qP ?_ (body i s _ (by omega) (qw (by omega) (by omega)) hr)
   intro e aY hK
   cases e with
   | normal=>
    obtain ⟨s'',h1,h2⟩:=hK
    cases h1
    exact ⟨⟨(i+1,s'),h,by simp only;rw [show n.toNat - (i+1)=k by omega];exact hf⟩,by simp only;omega,h2⟩
   | _=>obtain ⟨y,h1,h2⟩:=hK;cases h1
 ·obtain rfl:i=n.toNat:=by omega
  simp only [Nat.sub_self,bG,Option.some.injEq] at hf
  refine qP ?_ (last n.toNat s (by omega) hf.symm)
  intro e aY hK
  cases e with
  | normal=>exact hK.elim
  | _=>exact hK
def cr {σ ρ:Type} (f:σ→Option (σ ⊕ ρ)):Nat→σ→Option ρ
 | 0,_=>none
 | k+1,s=>match f s with
  | none=>none
  | some (.inr r)=>some r
  | some (.inl s')=>cr f k s'
theorem Jq {σ ρ:Type} {f:σ→Option (σ ⊕ ρ)}:∀ {k:Nat} {s:σ} {r:ρ},cr f k s=some r→∀ {k':Nat},k≤k'→cr f k' s=some r
 | 0,_,_,h,_,_=>by cases h
 | k+1,s,r,h,k',hk=>by
  obtain ⟨m,rfl⟩:∃ m,k'=m+1:=⟨k' - 1,by omega⟩
  simp only [cr] at h ⊢
  split at h
  ·cases h
  ·exact h
  ·exact Jq h (by omega)
open Classical in
noncomputable def iter {σ ρ:Type} (f:σ→Option (σ ⊕ ρ)) (s:σ):Option ρ:=if h:∃ r,∃ k,cr f k s=some r then some h.choose else none
theorem vz {σ ρ:Type} {f:σ→Option (σ ⊕ ρ)} {s:σ} {r:ρ}:iter f s=some r↔∃ k,cr f k s=some r:=by
 unfold iter
 split
 ·rename_i h
  obtain ⟨k,hk⟩:=h.choose_spec
  simp only [Option.some.injEq]
  constructor
  ·intro e;exact ⟨k,by rw [←e];exact hk⟩
  ·rintro ⟨k',hk'⟩
   have h1:=Jq hk (uu k k')
   have h2:=Jq hk' (ut k k')
   rw [h1] at h2;exact Option.some.inj h2
 ·rename_i h
  constructor
  ·intro e;cases e
  ·rintro ⟨k,hk⟩;exact absurd ⟨r,k,hk⟩ h
theorem OG {σ ρ:Type} (f:σ→Option (σ ⊕ ρ)) (s:σ):iter f s=match f s with
  | none=>none
  | some (.inr r)=>some r
  | some (.inl s')=>iter f s':=by
 apply Option.ext
 intro r
 rw [vz]
 constructor
 ·rintro ⟨k,hk⟩
  cases k with
  | zero=>cases hk
  | succ k=>
   simp only [cr] at hk
   split at hk
   ·cases hk
   ·exact hk
   ·exact vz.2 ⟨k,hk⟩
 ·intro h
  split at h
  ·cases h
  ·rename_i e;exact ⟨1,by simp only [cr,e];exact h⟩
  ·rename_i e
   obtain ⟨k,hk⟩:=vz.1 h
   exact ⟨k+1,by simp only [cr,e];exact hk⟩
theorem OH {C:bA} {nt:Fr} {x:cB} {K:Exit→St→Prop} {st:St} {σ ρ:Type} {f:σ→Option (σ ⊕ ρ)} {s0:σ} {out:ρ} (hl:iter f s0=some out)
  (E:σ→List (Nat×AV)) (H:σ→List (Nat×aF)) (h0:bR st ⟨E s0,H s0,st.next⟩)
  (body:∀ (s:σ) (o:σ ⊕ ρ),f s=some o→cD C nt x (BW (fun s=>⟨E s,H s,st.next⟩) K (.inr out) o) ⟨E s,H s,st.next⟩):cD C nt (.loop x) K st:=by
 obtain ⟨k,hk⟩:=vz.1 hl
 refine Jk (ι:={p:Nat×σ // cr f p.1 p.2=some out}) (fun p=>⟨E p.1.2,H p.1.2,st.next⟩) (fun p=>p.1.1) ⟨(k,s0),hk⟩ (fun _=>uj _) h0 (uj _) ?_
 rintro ⟨⟨i,s⟩,hf⟩
 simp only at hf
 cases i with
 | zero=>cases hf
 | succ i=>
  simp only [cr] at hf
  split at hf
  ·cases hf
  ·rename_i r hr
   cases hf
   refine qP ?_ (body s _ hr)
   intro e aY hK
   cases e with
   | normal=>obtain ⟨s',h1,_⟩:=hK;cases h1
   | _=>obtain ⟨y,h1,h2⟩:=hK;cases h1;exact h2 rfl
  ·rename_i s' hr
   refine qP ?_ (body s _ hr)
   intro e aY hK
   cases e with
   | normal=>obtain ⟨s'',h1,h2⟩:=hK;cases h1;exact ⟨⟨(i,s'),hf⟩,by simp only;omega,h2⟩
   | _=>obtain ⟨y,h1,h2⟩:=hK;cases h1
theorem aJ.start {C:Ctx} {f:Nat} {F:dz} (hF:qr C f=some F.erase) {args:List IV} {r:IV} (d:Nat) (hn:args.length≤F.nt)
 (h:∀ B,cD C.plain ⟨F.nt,B⟩ F.body (Za F.results (Xp d r)) {env:=jn 0 (args.map .ak),heap:=[],next:=0}):aJ C f args r:=aJ.of (d:=d) (bJ.enter hF (by simpa using hn) (fun B=>qP (fun e st hk=>by
  have key:∀ {o:Option AV},Jp (Xp d r) st.heap st.next o→∃ x,o=some x∧Xp d r x st.heap st.next:=fun {o} ho=>by
   cases o with
   | none=>exact ho.elim
   | some x=>exact ⟨x,rfl,ho⟩
  cases e with
  | ret=>exact ⟨.inl rfl,key hk⟩
  | normal=>exact ⟨.inr rfl,key hk⟩
  | _=>exact hk.elim) (h B)))
end
section
def zb (n:Int):List IV:=[.int .i64 n]
def Ka (k:IntKind) (n:Int):List IV:=[.int k n]
def zg (b:Bool):List IV:=[.bool b]
def OI (s:ByteArray):List IV:=[.str s]
def zH {α:Type} (f:α→List IV) (l:List α):List IV:=[.slice (l.map f)]
def zt (r:List IV):List AV:=r.map .ak
abbrev vI (n:Int):AV:=.ak (.int .i64 n)
abbrev vB (b:Bool):AV:=.ak (.bool b)
theorem Gn {α:Type} {b:Bool} {x y r:α} (g:b=true) (h:(bif b then x else y)=r):x=r:=by subst g;exact h
theorem Gp {α:Type} {b:Bool} {x y r:α} (g:b=false) (h:(bif b then x else y)=r):y=r:=by subst g;exact h
theorem OJ {C:bA} {nt:Fr} {c:bf} {x y:cB} {K:Exit→St→Prop} {st:St} (hc:zd st.env c=.ak (.bool true)) (h1:cD C nt x K st):cD C nt (.cond c x y) K st:=
 xy true hc (fun _=>h1) (fun h=>by cases h)
theorem OK {C:bA} {nt:Fr} {c:bf} {x y:cB} {K:Exit→St→Prop} {st:St} (hc:zd st.env c=.ak (.bool false)) (h1:cD C nt y K st):cD C nt (.cond c x y) K st:=
 xy false hc (fun h=>by cases h) (fun _=>h1)
theorem Gq {n:St→Prop} {K:Exit→St→Prop} {id:Nat} {st:St} (h:K (.exit id) st):vT n K (.exit id) st:=h
theorem qC {n:St→Prop} {K:Exit→St→Prop} {st:St} (h:n st):vT n K .normal st:=h
theorem Dk {id:Nat} {K:Exit→St→Prop} {st:St} (h:K .normal st):xR id K .normal st:=h
def Vd {α:Type} (l:List α) (a b:Int):Option (List α):=if 0≤a∧a≤b∧b≤(l.length:Int) then some ((l.take b.toNat).drop a.toNat) else none
theorem OL {α:Type} {l:List α} {a b:Int} {e:List α} (h:Vd l a b=some e):0≤a∧a≤b∧b≤(l.length:Int)∧(l.take b.toNat).drop a.toNat=e:=by
 unfold Vd at h;split at h
 ·rename_i hh;exact ⟨hh.1,hh.2.1,hh.2.2,Option.some.inj h⟩
 ·cases h
def Jr (k:IntKind) (a b:Int):Option Int:=if b=0 then none else some (a.tmod b)
theorem OM {k:IntKind} {a b e:Int} (h:Jr k a b=some e):¬ b=0∧a.tmod b=e:=by
 unfold Jr at h;split at h
 ·cases h
 ·exact ⟨‹_›,Option.some.inj h⟩
attribute [simp] bne ai cellsOf yP wy Wh zD xf q6 vq xb Z3 jm qA QE xI jQ xj q7 z8 zj wb qg q5 ef Nat.testBit jp zZ xz zQ z6
attribute [simp] zb Ka zg OI zH zt
end
section
def jq (φ:Nat→Nat):AV→AV
 | .aS i af=>.aS (φ i) af
 | .ptr i r o=>.ptr (φ i) r o
 | .Zai i o l=>.Zai (φ i) o l
 | .map i=>.map (φ i)
 | .eE l i=>.eE l (φ i)
 | x=>x
def QA (φ:Nat→Nat):AV→AV
 | .func f a c=>.func f (a.map (jq φ)) (c.map (jq φ))
 | .agg cs=>.agg (cs.map (jq φ))
 | .tuple cs=>.tuple (cs.map (jq φ))
 | x=>jq φ x
def vl (φ:Nat→Nat):AV→AV
 | .tuple cs=>.tuple (cs.map (QA φ))
 | x=>QA φ x
def yV (φ:Nat→Nat) (row:List AV):List AV:=row.map (vl φ)
def Gr (φ:Nat→Nat) (e:IV×AV):IV×AV:=(e.1,vl φ e.2)
def qh (φ:Nat→Nat):aF→aF
 | .af sz af=>.af sz (af.map (yV φ))
 | .aT sz l=>.aT sz l
 | .map es=>.map (es.map (Gr φ))
 | .dead=>.dead
 | .lp l R s pe=>.lp l R s pe
def fR (φ:Nat→Nat):List (Nat×aF)→List (Nat×aF)
 | []=>[]
 | (k,o)::r=>(φ k,qh φ o)::fR φ r
def AN (φ:Nat→Nat) (l:List AV):List AV:=l.map (vl φ)
def Dl (C:Ctx) (f:Nat) (args:List AV) (heap:List (Nat×aF)) (next:Nat) (r:AV) (heap':List (Nat×aF)) (next':Nat):Prop:=
 bJ C f args heap next fun x h n=>x=r∧h=heap'∧n=next'
section
variable {C:Ctx} {g g':Gh} {h h' h0:Nat→Option aF} {N N' N0:Nat→Prop} {w w':World} {φ:Nat→Nat}
structure Ren (φ:Nat→Nat) (N0:Nat→Prop) (g0:Gh) (h0:Nat→Option aF) (g:Gh) (h:Nat→Option aF):Prop where
 eo:∀ i,N0 i→g0.ρ i=g.ρ (φ i)
 zed:g0.Z=g.Z
theorem ko {g0:Gh} {m:Nat} (hr:∀ i,i < m→g0.ρ i=g.ρ (φ i)) (hz:g0.Z=g.Z) (hh:∀ i o,h0 i=some o→h (φ i)=some (qh φ o)) {x:AV} {v:Value} (hb:zQ m x=true) (hv:RV C g h N w (jq φ x) v):RV C g0 h0 (· < m) w x v:=by
 cases x with
 | top=>exact .top v
 | undef=>simp only [jq] at hv;cases hv;exact .undef
 | ak y=>simp only [jq] at hv;cases hv with | ak _ _ hr'=>exact .ak _ _ (by rw [hz];exact hr')
 | nil=>simp only [jq] at hv;cases hv;exact .nil
 | cx=>simp only [jq] at hv;cases hv with | cx a cap=>exact .cx a cap
 | eE l id=>
  simp only [jq] at hv
  have hid:id < m:=by simpa [zQ] using hb
  cases hv with
  | eE _ _ _ hp=>exact .eE l id hid fun R s pe h2=>by rw [hr id hid];exact hp R s pe (by rw [hh id _ h2];rfl)
 | aS id af=>
  simp only [jq] at hv
  have hid:id < m:=by simpa [zQ] using hb
  cases hv with
  | aS _ _ _ hr' _ ht=>
   refine .aS id af v (by rw [hz];exact hr') hid fun sz len h1 => ?_
   obtain ⟨a1,a2,a3⟩:=ht sz len (by rw [hh id _ h1];rfl)
   refine ⟨a1,a2,fun e => ?_⟩
   rcases a3 e with ⟨b1,b2⟩ | ⟨b,cap,c,e',b1,b2,b3,b4⟩
   ·exact .inl ⟨by rw [hr id hid];exact b1,b2⟩
   ·exact .inr ⟨b,cap,c,e',by rw [hr id hid];exact b1,b2,b3,b4⟩
 | cF cells=>
  simp only [jq] at hv
  cases hv with
  | cF _ b off cv gB hc hr'=>exact .cF cells b off cv (by rw [hz];exact gB) hc (by rw [hz];exact hr')
 | ptr id row off=>
  simp only [jq] at hv
  have hid:id < m:=by simpa [zQ] using hb
  cases hv with
  | ptr _ _ _ _ _ h1 hp=>
   refine .ptr id row off v hid h1 fun sz af h2 => ?_
   obtain ⟨b,b1,b2⟩:=hp sz _ (by rw [hh id _ h2];rfl)
   exact ⟨b,by rw [hr id hid];exact b1,b2⟩
 | Zai id off len=>
  simp only [jq] at hv
  have hid:id < m:=by simpa [zQ] using hb
  cases hv with
  | Zai _ _ _ _ _ h1 hp=>
   refine .Zai id off len v hid h1 fun sz af h2 => ?_
   obtain ⟨b1,b2⟩:=hp sz _ (by rw [hh id _ h2];rfl)
   simp only [List.length_map] at b1
   refine ⟨b1,?_⟩
   rcases b2 with ⟨c1,c2,c3⟩ | ⟨b,cap,c,e,c1,c2,c3,c4,c5⟩
   ·exact .inl ⟨by rw [hr id hid];exact c1,by simpa using c2,c3⟩
   ·exact .inr ⟨b,cap,c,e,by rw [hr id hid];exact c1,c2,c3,c4,c5⟩
 | map id=>
  simp only [jq] at hv
  have hid:id < m:=by simpa [zQ] using hb
  cases hv with
  | map _ _ _ h1 hp=>
   refine .map id v hid h1 fun es h2 => ?_
   obtain ⟨b,b1,b2⟩:=hp _ (by rw [hh id _ h2];rfl)
   exact ⟨b,by rw [hr id hid];exact b1,b2⟩
 | func=>cases hb
 | agg=>cases hb
 | tuple=>cases hb
theorem q8 {g0:Gh} {m:Nat} (hr:∀ i,i < m→g0.ρ i=g.ρ (φ i)) (hz:g0.Z=g.Z) (hh:∀ i o,h0 i=some o→h (φ i)=some (qh φ o)) {x:AV} {v:Value} (hb:xz m x=true) (hv:RV C g h N w (QA φ x) v):RV C g0 h0 (· < m) w x v:=by
 cases x with
 | func f a c=>
  simp only [xz,ul,ud] at hb
  simp only [QA] at hv
  cases hv with
  | func _ _ _ vf vc hlf hlc hf hc=>
   refine .func f a c vf vc (by simpa using hlf) (by simpa using hlc) (fun i y u h1 h2 => ?_) (fun i y u h1 h2 => ?_)
   ·exact ko hr hz hh (hb.1 y (ua h1)) (hf i _ u (by rw [ub,h1];rfl) h2)
   ·exact ko hr hz hh (hb.2 y (ua h1)) (hc i _ u (by rw [ub,h1];rfl) h2)
 | agg cs=>
  simp only [xz,ud] at hb
  simp only [QA] at hv
  cases hv with
  | agg _ vs hl h1 hr'=>
   exact .agg cs vs (by simpa using hl) h1 fun i y u e1 e2=>ko hr hz hh (hb y (ua e1)) (hr' i _ u (by rw [ub,e1];rfl) e2)
 | tuple cs=>
  simp only [xz,ud] at hb
  simp only [QA] at hv
  cases hv with
  | tuple _ vs hl hr'=>
   exact .tuple cs vs (by simpa using hl) fun i y u e1 e2=>ko hr hz hh (hb y (ua e1)) (hr' i _ u (by rw [ub,e1];rfl) e2)
 | _=>exact ko hr hz hh hb hv
theorem Kb {g0:Gh} {m:Nat} (hr:∀ i,i < m→g0.ρ i=g.ρ (φ i)) (hz:g0.Z=g.Z) (hh:∀ i o,h0 i=some o→h (φ i)=some (qh φ o)) {x:AV} {v:Value} (hb:zZ m x=true) (hv:RV C g h N w (vl φ x) v):RV C g0 h0 (· < m) w x v:=by
 cases x with
 | tuple cs=>
  simp only [zZ,ud] at hb
  simp only [vl] at hv
  cases hv with
  | tuple _ vs hl hr'=>
   exact .tuple cs vs (by simpa using hl) fun i y u e1 e2=>q8 hr hz hh (hb y (ua e1)) (hr' i _ u (by rw [ub,e1];rfl) e2)
 | top=>exact q8 (x:=.top) hr hz hh hb hv
 | undef=>exact q8 (x:=.undef) hr hz hh hb hv
 | ak y=>exact q8 (x:=.ak y) hr hz hh hb hv
 | nil=>exact q8 (x:=.nil) hr hz hh hb hv
 | cx=>exact q8 (x:=.cx) hr hz hh hb hv
 | aS a b=>exact q8 (x:=.aS a b) hr hz hh hb hv
 | cF a=>exact q8 (x:=.cF a) hr hz hh hb hv
 | ptr a b c=>exact q8 (x:=.ptr a b c) hr hz hh hb hv
 | Zai a b c=>exact q8 (x:=.Zai a b c) hr hz hh hb hv
 | map a=>exact q8 (x:=.map a) hr hz hh hb hv
 | func a b c=>exact q8 (x:=.func a b c) hr hz hh hb hv
 | agg a=>exact q8 (x:=.agg a) hr hz hh hb hv
 | eE a b=>exact q8 (x:=.eE a b) hr hz hh hb hv
theorem qT {g0:Gh} {m:Nat} (hr:∀ i,i < m→g.ρ (φ i)=g0.ρ i) (hz:g0.Z=g.Z) (hN:∀ i,i < m→N (φ i)) (hh:∀ i o,i < m→h (φ i)=some o→∃ o0,h0 i=some o0∧o=qh φ o0) {x:AV} {v:Value} (hb:zQ m x=true) (hv:RV C g0 h0 (· < m) w x v):RV C g h N w (jq φ x) v:=by
 cases hv with
 | top=>cases v<;>exact .top _
 | undef=>exact .undef
 | ak y _ hr'=>exact .ak _ _ (by rw [←hz];exact hr')
 | nil=>exact .nil
 | cx a cap=>exact .cx a cap
 | eE l id hid hp=>
  refine .eE l (φ id) (hN id hid) fun R s pe h2 => ?_
  obtain ⟨o0,e0,e1⟩:=hh id _ hid h2
  cases o0<;>simp only [qh] at e1<;>cases e1
  rw [hr id hid];exact hp _ _ _ e0
 | aS id af _ hr' hid ht=>
  refine .aS (φ id) af v (by rw [←hz];exact hr') (hN id hid) fun sz len h1 => ?_
  obtain ⟨o0,e0,e1⟩:=hh id _ hid h1
  cases o0<;>simp only [qh] at e1<;>cases e1
  obtain ⟨a1,a2,a3⟩:=ht _ _ e0
  refine ⟨a1,a2,fun e => ?_⟩
  rcases a3 e with ⟨b1,b2⟩ | ⟨b,cap,c,e',b1,b2,b3,b4⟩
  ·exact .inl ⟨by rw [hr id hid];exact b1,b2⟩
  ·exact .inr ⟨b,cap,c,e',by rw [hr id hid];exact b1,b2,b3,b4⟩
 | cF cells b off cv gB hc hr'=>exact .cF cells b off cv (by rw [←hz];exact gB) hc (by rw [←hz];exact hr')
 | ptr id row off _ hid h1 hp=>
  refine .ptr (φ id) row off v (hN id hid) h1 fun sz af h2 => ?_
  obtain ⟨o0,e0,e1⟩:=hh id _ hid h2
  cases o0<;>simp only [qh] at e1<;>cases e1
  obtain ⟨b,b1,b2⟩:=hp _ _ e0
  exact ⟨b,by rw [hr id hid];exact b1,b2⟩
 | Zai id off len _ hid h1 hp=>
  refine .Zai (φ id) off len v (hN id hid) h1 fun sz af h2 => ?_
  obtain ⟨o0,e0,e1⟩:=hh id _ hid h2
  cases o0<;>simp only [qh] at e1<;>cases e1
  obtain ⟨b1,b2⟩:=hp _ _ e0
  refine ⟨by simpa using b1,?_⟩
  rcases b2 with ⟨c1,c2,c3⟩ | ⟨b,cap,c,e,c1,c2,c3,c4,c5⟩
  ·exact .inl ⟨by rw [hr id hid];exact c1,by rw [c2];rfl,c3⟩
  ·exact .inr ⟨b,cap,c,e,by rw [hr id hid];exact c1,c2,c3,c4,c5⟩
 | map id _ hid h1 hp=>
  refine .map (φ id) v (hN id hid) h1 fun es h2 => ?_
  obtain ⟨o0,e0,e1⟩:=hh id _ hid h2
  cases o0<;>simp only [qh] at e1<;>cases e1
  obtain ⟨b,b1,b2⟩:=hp _ e0
  exact ⟨b,by rw [hr id hid];exact b1,b2⟩
 | func=>cases hb
 | agg=>cases hb
 | tuple=>cases hb
theorem jz {g0:Gh} {m:Nat} (hr:∀ i,i < m→g.ρ (φ i)=g0.ρ i) (hz:g0.Z=g.Z) (hN:∀ i,i < m→N (φ i)) (hh:∀ i o,i < m→h (φ i)=some o→∃ o0,h0 i=some o0∧o=qh φ o0) {x:AV} {v:Value} (hb:xz m x=true) (hv:RV C g0 h0 (· < m) w x v):RV C g h N w (QA φ x) v:=by
 cases x with
 | func f a c=>
  simp only [xz,ul,ud] at hb
  simp only [QA]
  cases hv with
  | func _ _ _ vf vc hlf hlc hf hc=>
   refine .func f _ _ vf vc (by simpa using hlf) (by simpa using hlc) (fun i y u h1 h2 => ?_) (fun i y u h1 h2 => ?_)
   ·rw [ub,uc] at h1
    obtain ⟨z,h1,rfl⟩:=h1
    exact qT hr hz hN hh (hb.1 z (ua h1)) (hf i z u h1 h2)
   ·rw [ub,uc] at h1
    obtain ⟨z,h1,rfl⟩:=h1
    exact qT hr hz hN hh (hb.2 z (ua h1)) (hc i z u h1 h2)
 | agg cs=>
  simp only [xz,ud] at hb
  simp only [QA]
  cases hv with
  | agg _ vs hl h1 hr'=>
   refine .agg _ vs (by simpa using hl) h1 fun i y u e1 e2 => ?_
   rw [ub,uc] at e1
   obtain ⟨z,e1,rfl⟩:=e1
   exact qT hr hz hN hh (hb z (ua e1)) (hr' i z u e1 e2)
 | tuple cs=>
  simp only [xz,ud] at hb
  simp only [QA]
  cases hv with
  | tuple _ vs hl hr'=>
   refine .tuple _ vs (by simpa using hl) fun i y u e1 e2 => ?_
   rw [ub,uc] at e1
   obtain ⟨z,e1,rfl⟩:=e1
   exact qT hr hz hN hh (hb z (ua e1)) (hr' i z u e1 e2)
 | top=>exact qT (x:=.top) hr hz hN hh hb hv
 | undef=>exact qT (x:=.undef) hr hz hN hh hb hv
 | ak y=>exact qT (x:=.ak y) hr hz hN hh hb hv
 | nil=>exact qT (x:=.nil) hr hz hN hh hb hv
 | cx=>exact qT (x:=.cx) hr hz hN hh hb hv
 | aS a b=>exact qT (x:=.aS a b) hr hz hN hh hb hv
 | cF a=>exact qT (x:=.cF a) hr hz hN hh hb hv
 | ptr a b c=>exact qT (x:=.ptr a b c) hr hz hN hh hb hv
 | Zai a b c=>exact qT (x:=.Zai a b c) hr hz hN hh hb hv
 | map a=>exact qT (x:=.map a) hr hz hN hh hb hv
 | eE a b=>exact qT (x:=.eE a b) hr hz hN hh hb hv
theorem Dm {g0:Gh} {m:Nat} (hr:∀ i,i < m→g.ρ (φ i)=g0.ρ i) (hz:g0.Z=g.Z) (hN:∀ i,i < m→N (φ i)) (hh:∀ i o,i < m→h (φ i)=some o→∃ o0,h0 i=some o0∧o=qh φ o0) {x:AV} {v:Value} (hb:zZ m x=true) (hv:RV C g0 h0 (· < m) w x v):RV C g h N w (vl φ x) v:=by
 cases x with
 | tuple cs=>
  simp only [zZ,ud] at hb
  simp only [vl]
  cases hv with
  | tuple _ vs hl hr'=>
   refine .tuple _ vs (by simpa using hl) fun i y u e1 e2 => ?_
   rw [ub,uc] at e1
   obtain ⟨z,e1,rfl⟩:=e1
   exact jz hr hz hN hh (hb z (ua e1)) (hr' i z u e1 e2)
 | top=>exact jz (x:=.top) hr hz hN hh hb hv
 | undef=>exact jz (x:=.undef) hr hz hN hh hb hv
 | ak y=>exact jz (x:=.ak y) hr hz hN hh hb hv
 | nil=>exact jz (x:=.nil) hr hz hN hh hb hv
 | cx=>exact jz (x:=.cx) hr hz hN hh hb hv
 | aS a b=>exact jz (x:=.aS a b) hr hz hN hh hb hv
 | cF a=>exact jz (x:=.cF a) hr hz hN hh hb hv
 | ptr a b c=>exact jz (x:=.ptr a b c) hr hz hN hh hb hv
 | Zai a b c=>exact jz (x:=.Zai a b c) hr hz hN hh hb hv
 | map a=>exact jz (x:=.map a) hr hz hN hh hb hv
 | func a b c=>exact jz (x:=.func a b c) hr hz hN hh hb hv
 | agg a=>exact jz (x:=.agg a) hr hz hN hh hb hv
 | eE a b=>exact jz (x:=.eE a b) hr hz hN hh hb hv
theorem ON {g0:Gh} {m b:Nat} (hr:∀ i,i < m→g0.ρ i=g.ρ (φ i)) (hz:g0.Z=g.Z) (hh:∀ i o,h0 i=some o→h (φ i)=some (qh φ o)) {o:aF} (hb:z6 m o) (hv:cH C g h N w b (qh φ o)):cH C g0 h0 (· < m) w b o:=by
 cases o with
 | af sz af=>
  simp only [qh,cH] at hv ⊢
  obtain ⟨a1,c,e,a2,a3,a4⟩:=hv
  refine ⟨by rw [hz];exact a1,c,e,a2,fun i row h1 => ?_,fun i row j x h1 h2 => ?_⟩
  ·have:=a3 i (yV φ row) (by rw [ub,h1];rfl);simpa [yV] using this
  ·obtain ⟨cv,b1,b2,b3⟩:=a4 i (yV φ row) j (vl φ x) (by rw [ub,h1];rfl) (by simp only [yV];rw [ub,h2];rfl)
   exact ⟨cv,b1,b2,Kb hr hz hh (hb row (ua h1) x (ua h2)) b3⟩
 | aT sz l=>simp only [qh,cH] at hv ⊢; rw [hz];exact hv
 | map es=>
  simp only [qh,cH] at hv ⊢
  obtain ⟨a1,cG,clock,a2,a3,a4⟩:=hv
  refine ⟨by rw [hz];exact a1,cG,clock,a2,by simpa using a3,fun i k x h1 => ?_⟩
  obtain ⟨e,b1,b2,b3⟩:=a4 i k (vl φ x) (by rw [ub,h1];rfl)
  exact ⟨e,b1,b2,Kb hr hz hh (hb _ (ua h1)) b3⟩
 | dead=>trivial
 | lp l R s pe=>simp only [qh,cH] at hv ⊢; rw [hz];exact hv
theorem OO {g0:Gh} {m b:Nat} (hr:∀ i,i < m→g.ρ (φ i)=g0.ρ i) (hz:g0.Z=g.Z) (hN:∀ i,i < m→N (φ i)) (hh:∀ i o,i < m→h (φ i)=some o→∃ o0,h0 i=some o0∧o=qh φ o0) {o:aF} (hb:z6 m o) (hv:cH C g0 h0 (· < m) w b o):cH C g h N w b (qh φ o):=by
 cases o with
 | af sz af=>
  simp only [qh,cH] at hv ⊢
  obtain ⟨a1,c,e,a2,a3,a4⟩:=hv
  refine ⟨by rw [←hz];exact a1,c,e,a2,fun i row h1 => ?_,fun i row j x h1 h2 => ?_⟩
  ·rw [ub,uc] at h1
   obtain ⟨z,h1,rfl⟩:=h1
   simpa [yV] using a3 i z h1
  ·rw [ub,uc] at h1
   obtain ⟨z,h1,rfl⟩:=h1
   simp only [yV] at h2
   rw [ub,uc] at h2
   obtain ⟨y,h2,rfl⟩:=h2
   obtain ⟨cv,b1,b2,b3⟩:=a4 i z j y h1 h2
   exact ⟨cv,b1,b2,Dm hr hz hN hh (hb z (ua h1) y (ua h2)) b3⟩
 | aT sz l=>simp only [qh,cH] at hv ⊢; rw [←hz];exact hv
 | map es=>
  simp only [qh,cH] at hv ⊢
  obtain ⟨a1,cG,clock,a2,a3,a4⟩:=hv
  refine ⟨by rw [←hz];exact a1,cG,clock,a2,by simpa using a3,fun i k x h1 => ?_⟩
  rw [ub,uc] at h1
  obtain ⟨z,h1,h2⟩:=h1
  simp only [Gr] at h2
  cases h2
  obtain ⟨e,b1,b2,b3⟩:=a4 i z.1 z.2 h1
  exact ⟨e,b1,b2,Dm hr hz hN hh (hb _ (ua h1)) b3⟩
 | dead=>trivial
 | lp l R s pe=>simp only [qh,cH] at hv ⊢; rw [←hz];exact hv
theorem Wi {n:Nat} (inj:∀ i j,i < n→j < n→φ i=φ j→i=j):∀ {l:List (Nat×aF)},(∀ p∈l,p.1 < n)→∀ i,i < n→bB (fR φ l) h (φ i)=match za l i with
  | some o=>some (qh φ o)
  | none=>h (φ i)
 | [],_,i,hi=>rfl
 | (k,o)::r,hl,i,hi=>by
  simp only [fR,bB,za]
  by_cases e:k=i
  ·subst e;rw [if_pos rfl,if_pos rfl]
  ·rw [if_neg e,if_neg (fun h=>e (inj k i (hl (k,o) (by simp)) hi h))]
   exact Wi inj (fun p hp=>hl p (by simp [hp])) i hi
theorem yW {n:Nat}:∀ {l:List (Nat×aF)},(∀ p∈l,p.1 < n)→∀ j,(∀ i,i < n→φ i≠j)→bB (fR φ l) h j=h j
 | [],_,j,hj=>rfl
 | (k,o)::r,hl,j,hj=>by
  simp only [fR,bB]
  rw [if_neg (hj k (hl (k,o) (by simp)))]
  exact yW (fun p hp=>hl p (by simp [hp])) j hj
open Classical in
noncomputable def inv (φ:Nat→Nat) (n j:Nat):Option Nat:=if h:∃ i,i < n∧φ i=j then some h.choose else none
theorem OP {n i:Nat} (inj:∀ i j,i < n→j < n→φ i=φ j→i=j) (hi:i < n):inv φ n (φ i)=some i:=by
 unfold inv
 have h:∃ k,k < n∧φ k=φ i:=⟨i,hi,rfl⟩
 rw [dif_pos h]
 have:=h.choose_spec
 rw [inj _ _ this.1 hi this.2]
theorem qQ {n i j:Nat} (h:inv φ n j=some i):i < n∧φ i=j:=by
 unfold inv at h
 split at h
 ·rename_i hh;cases h;exact hh.choose_spec
 ·cases h
theorem yw {n j:Nat} (h:inv φ n j=none):∀ i,i < n→φ i≠j:=by
 unfold inv at h
 split at h
 ·cases h
 ·rename_i hh;exact fun i hi e=>hh ⟨i,hi,e⟩
theorem frame {f m n1:Nat} {dN:List AV} {ct bS:List (Nat×aF)} {r0:AV} (hc:Dl C f dN ct m r0 bS n1)
  (AO:∀ p∈ct,p.1 < m∧z6 m p.2) (hka:∀ x∈dN,zZ m x=true) (hk1:∀ p∈bS,p.1 < n1∧z6 n1 p.2) (gC:zZ n1 r0=true)
  (hall:∀ i,i < m→(za bS i).isSome=true) (inj:∀ i j,i < n1→j < n1→φ i=φ j→i=j)
  (hB:∀ i o,za ct i=some o→h (φ i)=some (qh φ o)) (hN:∀ i,i < m→N (φ i)) (hfr:∀ i,m≤i→i < n1→¬ N (φ i)) (Dn:∀ j,N j→N' j) (BX:∀ i,i < n1→N' (φ i))
  {vs:List Value} (R:RH C g h N w) (hv:nG C g h N w (AN φ dN) vs) (hm:m≤n1) :
  Calls C.P (C.ew f) vs.toArray w fun e w'=>∃ v g',e=.returned v∧b8 g h N w g' (bB (fR φ bS) h) N' w'∧RH C g' (bB (fR φ bS) h) N' w'∧RV C g' (bB (fR φ bS) h) N' w' (vl φ r0) v:=by
 let g0:Gh:=⟨fun i=>if i < m then g.ρ (φ i) else none,g.Z⟩
 have dU:∀ i,i < m→g0.ρ i=g.ρ (φ i):=fun i hi=>if_pos hi
 have fw:∀ i b,g0.ρ i=some b→i < m∧g.ρ (φ i)=some b:=fun i b hb=>by
  simp only [g0] at hb
  split at hb
  ·exact ⟨‹_›,hb⟩
  ·cases hb
 have Dp:∀ i o,za ct i=some o→i < m∧z6 m o:=fun i o ho=>AO (i,o) (jo ho)
 have R0:RH C g0 (za ct) (· < m) w:={
  inj:=fun i j b h1 h2=>by
   obtain ⟨a1,a2⟩:=fw i b h1
   obtain ⟨b1,b2⟩:=fw j b h2
   exact inj i j (by omega) (by omega) (R.inj _ _ b a2 b2)
  lt:=fun i b h1=>by
   obtain ⟨a1,a2⟩:=fw i b h1
   exact ⟨(R.lt _ b a2).1,a1⟩
  key:=fun i o ho=>(Dp i o ho).1
  obj:=fun i b o h1 ho=>by
   obtain ⟨a1,a2⟩:=fw i b h1
   exact ON dU rfl hB (Dp i o ho).2 (R.obj _ b _ a2 (hB i o ho))
  cR:=fun i sz len ho h1=>by
   have hi:=(Dp i _ ho).1
   exact R.cR (φ i) sz len (hB i _ ho) (by rw [←dU i hi];exact h1)
  ea:=R.ea
  fix:=⟨R.fix.1,R.fix.2.1,fun b hb ⟨i,hi⟩=>R.fix.2.2 b hb ⟨_,(fw i b hi).2⟩⟩}
 have fY:nG C g0 (za ct) (· < m) w dN vs:=⟨by have:=hv.1;simpa [AN] using this,fun j x u h1 h2=>
  Kb dU rfl hB (hka x (ua h1)) (hv.2 j (vl φ x) u (by simp only [AN];rw [ub,h1];rfl) h2)⟩
 refine (hc.2 g0 w vs R0 fY).mono ?_
 rintro e w' ⟨v,r,l8,nx,g1,rfl,⟨e1,e2,e3⟩,E0,R1,cz⟩
 rw [e2,e3] at E0 R1
 rw [e1,e2,e3] at cz
 clear e1 e2 e3
 have gJ:∀ p∈bS,p.1 < n1:=fun p hp=>(hk1 p hp).1
 have ni:∀ i o,za bS i=some o→i < n1∧z6 n1 o:=fun i o ho=>hk1 (i,o) (jo ho)
 let g':Gh:=⟨fun j=>match inv φ n1 j with | some i=>g1.ρ i | none=>g.ρ j,g1.Z⟩
 have gj:∀ i,i < n1→g'.ρ (φ i)=g1.ρ i:=fun i hi=>by simp only [g',OP inj hi]
 have mF:∀ j,inv φ n1 j=none→g'.ρ j=g.ρ j:=fun j hj=>by simp only [g',hj]
 have hin:∀ i,i < n1→bB (fR φ bS) h (φ i)=match za bS i with | some o=>some (qh φ o) | none=>h (φ i):=Wi inj gJ
 have hoff:∀ j,inv φ n1 j=none→bB (fR φ bS) h j=h j:=fun j hj=>yW gJ j (yw hj)
 have iw:∀ i o,i < n1→bB (fR φ bS) h (φ i)=some o→∃ o0,za bS i=some o0∧o=qh φ o0:=fun i o hi ho=>by
  rw [hin i hi] at ho
  cases ha:za bS i with
  | some o0=>rw [ha] at ho;simp only [Option.some.injEq] at ho;exact ⟨o0,rfl,ho.symm⟩
  | none=>
   rw [ha] at ho
   simp only at ho
   rcases ui i m with h1 | h1
   ·have:=hall i h1;rw [ha] at this;cases this
   ·exact absurd (R.key _ _ ho) (hfr i h1 hi)
 have tR:∀ j,N j→∀ i,inv φ n1 j=some i→i < m:=fun j hj i hi=>by
  obtain ⟨h1,h2⟩:=qQ hi
  rcases ui i m with h3 | h3
  ·exact h3
  ·exact absurd (by rw [h2];exact hj) (hfr i h3 h1)
 have E:b8 g h N w g' (bB (fR φ bS) h) N' w':={
  os:=E0.os
  tape:=E0.tape
  output:=E0.output
  size:=E0.size
  old:=fun b hb ho=>E0.old b hb (fun ⟨i,hi⟩=>ho ⟨φ i,(fw i b hi).2⟩)
  own:=fun b ⟨j,hj⟩=>by
   cases hi:inv φ n1 j with
   | some i=>
    obtain ⟨h1,rfl⟩:=qQ hi
    rw [gj i h1] at hj
    rcases E0.own b ⟨i,hj⟩ with ⟨k,hk⟩ | hk
    ·exact .inl ⟨φ k,(fw k b hk).2⟩
    ·exact .inr hk
   | none=>rw [mF j hi] at hj;exact .inl ⟨j,hj⟩
  cg:=E0.cg
  cell:=E0.cell
  shape:=E0.shape
  next:=Dn
  eo:=fun j b hb o ho hnd hj=>by
   cases hi:inv φ n1 j with
   | some i=>
    have eR:=tR j hj i hi
    obtain ⟨h1,rfl⟩:=qQ hi
    obtain ⟨o0,e0,rfl⟩:=iw i o h1 ho
    rw [gj i h1]
    rcases E0.eo i b (by rw [dU i eR];exact hb) o0 e0 (fun e=>hnd (by rw [e];rfl)) eR with h3 | ⟨sz,l,sz',l',h3,h4,h5⟩
    ·exact .inl h3
    ·subst h4;exact .inr ⟨sz,l,sz',l',by rw [hB i _ h3];rfl,rfl,h5⟩
   | none=>rw [mF j hi];exact .inl hb
  cJ:=fun j hb hj o ho hnd=>by
   cases hi:inv φ n1 j with
   | some i=>
    have eR:=tR j hj i hi
    obtain ⟨h1,rfl⟩:=qQ hi
    obtain ⟨o0,e0,rfl⟩:=iw i o h1 ho
    rw [gj i h1]
    rcases E0.cJ i (by rw [dU i eR];exact hb) eR o0 e0 (fun e=>hnd (by rw [e];rfl)) with h3 | ⟨sz,l,sz',l',h3,h4,h5⟩
    ·exact .inl h3
    ·subst h4;exact .inr ⟨sz,l,sz',l',by rw [hB i _ h3];rfl,rfl,h5⟩
   | none=>rw [mF j hi];exact .inl hb
  af:=fun j hj sz af ho=>by
   cases hi:inv φ n1 j with
   | some i=>
    have eR:=tR j hj i hi
    obtain ⟨h1,rfl⟩:=qQ hi
    obtain ⟨o0,e0,e1⟩:=iw i _ h1 ho
    cases o0<;>simp only [qh] at e1<;>cases e1
    obtain ⟨r2,h3,h4⟩:=E0.af i eR _ _ e0
    exact ⟨_,by rw [hB i _ h3];rfl,by simpa using h4⟩
   | none=>rw [hoff j hi] at ho;exact ⟨af,ho,rfl⟩
  cS:=fun j hj sz len ho=>by
   cases hi:inv φ n1 j with
   | some i=>
    have eR:=tR j hj i hi
    obtain ⟨h1,rfl⟩:=qQ hi
    obtain ⟨o0,e0,e1⟩:=iw i _ h1 ho
    cases o0<;>simp only [qh] at e1<;>cases e1
    obtain ⟨l2,h3,h4⟩:=E0.cS i eR _ _ e0
    exact ⟨l2,by rw [hB i _ h3];rfl,h4⟩
   | none=>rw [hoff j hi] at ho;exact ⟨len,ho,uj _⟩
  maps:=fun j hj es ho=>by
   cases hi:inv φ n1 j with
   | some i=>
    have eR:=tR j hj i hi
    obtain ⟨h1,rfl⟩:=qQ hi
    obtain ⟨o0,e0,e1⟩:=iw i _ h1 ho
    cases o0<;>simp only [qh] at e1<;>cases e1
    obtain ⟨e2,h3⟩:=E0.maps i eR _ e0
    exact ⟨_,by rw [hB i _ h3];rfl⟩
   | none=>rw [hoff j hi] at ho;exact ⟨es,ho⟩
  fE:=fun j hj ll RR s pe ho=>by
   cases hi:inv φ n1 j with
   | some i=>
    have eR:=tR j hj i hi
    obtain ⟨h1,rfl⟩:=qQ hi
    obtain ⟨o0,e0,e1⟩:=iw i _ h1 ho
    cases o0<;>simp only [qh] at e1<;>cases e1
    obtain ⟨e2,e3,h3⟩:=E0.fE i eR _ _ _ _ e0
    exact ⟨_,_,by rw [hB i _ h3];rfl⟩
   | none=>rw [hoff j hi] at ho;exact ⟨s,pe,ho⟩}
 have hR:RH C g' (bB (fR φ bS) h) N' w':={
  inj:=fun i j b h1 h2=>by
   cases hi:inv φ n1 i with
   | some i0=>
    obtain ⟨a1,rfl⟩:=qQ hi
    rw [gj i0 a1] at h1
    cases hj:inv φ n1 j with
    | some j0=>
     obtain ⟨b1,rfl⟩:=qQ hj
     rw [gj j0 b1] at h2
     rw [R1.inj i0 j0 b h1 h2]
    | none=>
     rw [mF j hj] at h2
     rcases E0.own b ⟨i0,h1⟩ with ⟨k,hk⟩ | hk
     ·obtain ⟨k1,k2⟩:=fw k b hk
      have:=R.inj _ _ b k2 h2
      exact absurd this (yw hj k (by omega))
     ·have:=(R.lt j b h2).1;omega
   | none=>
    rw [mF i hi] at h1
    cases hj:inv φ n1 j with
    | some j0=>
     obtain ⟨b1,rfl⟩:=qQ hj
     rw [gj j0 b1] at h2
     rcases E0.own b ⟨j0,h2⟩ with ⟨k,hk⟩ | hk
     ·obtain ⟨k1,k2⟩:=fw k b hk
      have:=R.inj _ _ b k2 h1
      exact absurd this (yw hi k (by omega))
     ·have:=(R.lt i b h1).1;omega
    | none=>
     rw [mF j hj] at h2
     exact R.inj i j b h1 h2
  lt:=fun i b h1=>by
   cases hi:inv φ n1 i with
   | some i0=>
    obtain ⟨a1,rfl⟩:=qQ hi
    rw [gj i0 a1] at h1
    exact ⟨(R1.lt i0 b h1).1,BX i0 a1⟩
   | none=>
    rw [mF i hi] at h1
    obtain ⟨a1,a2⟩:=R.lt i b h1
    exact ⟨uo a1 E0.size,Dn i a2⟩
  key:=fun i o ho=>by
   cases hi:inv φ n1 i with
   | some i0=>obtain ⟨a1,rfl⟩:=qQ hi;exact BX i0 a1
   | none=>rw [hoff i hi] at ho;exact Dn i (R.key i o ho)
  obj:=fun i b o h1 ho=>by
   cases hi:inv φ n1 i with
   | some i0=>
    obtain ⟨a1,rfl⟩:=qQ hi
    rw [gj i0 a1] at h1
    obtain ⟨o0,e0,rfl⟩:=iw i0 o a1 ho
    exact OO (fun i hi=>gj i hi) rfl BX iw (ni i0 o0 e0).2 (R1.obj i0 b o0 h1 e0)
   | none=>
    rw [mF i hi] at h1
    rw [hoff i hi] at ho
    have hro:=R.obj i b o h1 ho
    have hno:¬ vM g0 b:=fun ⟨k,hk⟩=>by
     obtain ⟨k1,k2⟩:=fw k b hk
     exact yw hi k (by omega) (R.inj _ _ b k2 h1)
    obtain ⟨q1,q2⟩:=E0.old b (R.lt i b h1).1 hno
    have BZ:g'.Z b=g.Z b:=q2
    cases o with
    | af sz af=>
     simp only [cH] at hro ⊢
     obtain ⟨a1,c,e,a2,a3,a4⟩:=hro
     refine ⟨by rw [BZ];exact a1,c,e,by rw [q1];exact a2,a3,fun i row j x u1 u2 => ?_⟩
     obtain ⟨cv,b1,b2,b3⟩:=a4 i row j x u1 u2
     exact ⟨cv,b1,b2,b3.mono E⟩
    | aT sz l=>
     simp only [cH] at hro ⊢
     rw [q1,BZ]
     exact hro
    | map es=>
     simp only [cH] at hro ⊢
     obtain ⟨a1,cG,clock,a2,a3,a4⟩:=hro
     refine ⟨by rw [BZ];exact a1,cG,clock,by rw [q1];exact a2,a3,fun i k x u1 => ?_⟩
     obtain ⟨e,b1,b2,b3⟩:=a4 i k x u1
     exact ⟨e,b1,b2,b3.mono E⟩
    | dead=>trivial
    | lp l R s pe=>
     simp only [cH] at hro ⊢
     rw [q1,BZ]
     exact hro
  cR:=fun i sz len ho h1=>by
   cases hi:inv φ n1 i with
   | some i0=>
    obtain ⟨a1,rfl⟩:=qQ hi
    rw [gj i0 a1] at h1
    obtain ⟨o0,e0,e1⟩:=iw i0 _ a1 ho
    cases o0<;>simp only [qh] at e1<;>cases e1
    exact R1.cR i0 _ _ e0 h1
   | none=>
    rw [mF i hi] at h1
    rw [hoff i hi] at ho
    exact R.cR i sz len ho h1
  ea:=R1.ea
  fix:=R.fix.eN E}
 exact ⟨v,g',rfl,E,hR,Dm (fun i hi=>gj i hi) rfl BX iw gC cz⟩
end
end
inductive cL:List Prop→Prop where
 | nil:cL []
 | cons {p:Prop} {ps:List Prop} (h:p) (t:cL ps):cL (p::ps)
theorem cL.app:∀ {ps qs:List Prop},cL (ps++qs)→cL ps∧cL qs
 | [],qs,h=>⟨.nil,h⟩
 | p::ps,qs,h=>by
  cases h with
  | cons h t=>exact ⟨.cons h (cL.app t).1,(cL.app t).2⟩
theorem cL.one {p:Prop} (h:cL [p]):p:=by cases h;assumption
structure dm (C:Ctx) (f:Nat) (dN:List AV) (ct:List (Nat×aF)) (m:Nat) (r0:AV) (bS:List (Nat×aF)) (d:Nat):Prop where
 dB:Dl C f dN ct m r0 bS (m+d)
 k0:∀ p∈ct,p.1 < m∧z6 m p.2
 ka:∀ x∈dN,zZ m x=true
 k1:∀ p∈bS,p.1 < m+d∧z6 (m+d) p.2
 kr:zZ (m+d) r0=true
 all:∀ i,i < m→(za bS i).isSome=true
 AP:∀ i,i < m→(za ct i).isSome=true
def fB (l:List Nat) (m next:Nat):Nat→Nat:=fun i=>if i < m then l.getD i 0 else next+(i - m)
def ZF:List Nat→Bool
 | []=>true
 | x::r=>!(r.contains x)&&ZF r
inductive gq (h0:List (Nat×aF)):List (Nat×aF)→List (Nat×aF)→Prop where
 | nil:gq h0 [] []
 | keep {k:Nat} {o:aF} {r s:List (Nat×aF)} (t:gq h0 r s):gq h0 ((k,o)::r) ((k,o)::s)
 | drop {k:Nat} {o:aF} {r s:List (Nat×aF)} (hk:za h0 k=some o) (hs:za s k=none) (t:gq h0 r s):gq h0 ((k,o)::r) s
theorem gq.get {h0 h1 h2:List (Nat×aF)} (t:gq h0 h1 h2):∀ i,za h1 i=za h2 i∨(za h2 i=none∧za h1 i=za h0 i):=by
 induction t with
 | nil=>exact fun i=>.inl rfl
 | keep t ih=>
  intro i
  simp only [za]
  split
  ·exact .inl rfl
  ·exact ih i
 | drop hk hs t ih=>
  intro i
  simp only [za]
  split
  ·rename_i e;subst e;exact .inr ⟨hs,hk.symm⟩
  ·exact ih i
theorem gq.sub {h0 h1 h2:List (Nat×aF)} (t:gq h0 h1 h2):∀ p∈h2,p∈h1:=by
 induction t with
 | nil=>exact fun p hp=>hp
 | keep t ih=>
  intro p hp
  rcases ue.1 hp with e | e
  ·rw [e];simp
  ·exact uh _ (ih p e)
 | drop hk hs t ih=>exact fun p hp=>uh _ (ih p hp)
theorem Gs {φ:Nat→Nat} {n:Nat} {h:Nat→Option aF} {h0 h1 h2:List (Nat×aF)} (inj:∀ i j,i < n→j < n→φ i=φ j→i=j) (hl:∀ p∈h1,p.1 < n) (hB:∀ i o,za h0 i=some o→h (φ i)=some (qh φ o)) (t:gq h0 h1 h2):bB (fR φ h1) h=bB (fR φ h2) h:=by
 funext j
 cases hj:inv φ n j with
 | some i=>
  obtain ⟨hi,rfl⟩:=qQ hj
  rw [Wi inj hl i hi,Wi inj (fun p hp=>hl p (t.sub p hp)) i hi]
  rcases t.get i with e | ⟨e1,e2⟩
  ·rw [e]
  ·rw [e1,e2]
   cases ho:za h0 i with
   | none=>rfl
   | some o=>simp only;rw [hB i o ho]
 | none=>rw [yW hl j (yw hj),yW (fun p hp=>hl p (t.sub p hp)) j (yw hj)]
def lR (C:Ctx) (f:Nat) (args:List AV) (l:List Nat) (m next:Nat) (bX:List (Nat×aF)) (r:AV) (aN:List (Nat×aF)) (d:Nat):Prop:=
 ∃ dN ct r0 bS gh,dm C f dN ct m r0 bS d∧gq ct bS gh∧AN (fB l m next) dN=args∧fR (fB l m next) ct=bX∧vl (fB l m next) r0=r∧fR (fB l m next) gh=aN
theorem zf {C:Ctx} {f m d:Nat} {dN:List AV} {ct bS gh bX aN:List (Nat×aF)} {r0:AV} (hd:dm C f dN ct m r0 bS d) (l:List Nat) (next:Nat) (ht:gq ct bS gh) (ho:fR (fB l m next) ct=bX) (hu:fR (fB l m next) gh=aN) :
 lR C f (AN (fB l m next) dN) l m next bX (vl (fB l m next) r0) aN d:=⟨dN,ct,r0,bS,gh,hd,ht,rfl,ho,rfl,hu⟩
def xA (heap:List (Nat×aF)):List Nat→Option (List (Nat×aF))
 | []=>some []
 | i::l=>match za heap i with
  | none=>none
  | some o=>match xA heap l with
   | some r=>some ((i,o)::r)
   | none=>none
theorem kp {heap:List (Nat×aF)}:∀ {l:List Nat} {bX:List (Nat×aF)},xA heap l=some bX→∀ p∈bX,za heap p.1=some p.2
 | [],bX,h=>by cases h;intro p hp;cases hp
 | i::l,bX,h=>by
  simp only [xA] at h
  split at h
  ·cases h
  ·rename_i o ho
   split at h
   ·rename_i r hr
    cases h
    intro p hp
    rcases ue.1 hp with rfl | hp
    ·exact ho
    ·exact kp hr p hp
   ·cases h
theorem Wj {φ:Nat→Nat}:∀ {l:List (Nat×aF)} {k:Nat} {o:aF},(k,o)∈l→(φ k,qh φ o)∈fR φ l
 | (k',o')::r,k,o,h=>by
  simp only [fR]
  rcases ue.1 h with h | h
  ·cases h;simp
  ·exact uh _ (Wj h)
theorem V0:∀ {l:List Nat},ZF l=true→∀ i j:Nat,i < l.length→j < l.length→l.getD i 0=l.getD j 0→i=j
 | [],_,i,j,hi,_,_=>by simp at hi
 | x::r,h,i,j,hi,hj,e=>by
  simp only [ZF,ul,uA,List.contains_eq_mem,decide_eq_false_iff_not] at h
  have key:∀ k,k < r.length→r.getD k 0∈r:=fun k hk=>by simp [hk]
  cases i with
  | zero=>
   cases j with
   | zero=>rfl
   | succ j=>
    simp only [ux,um] at e
    exact absurd (by rw [e];exact key j (by simpa using hj)) h.1
  | succ i=>
   cases j with
   | zero=>
    simp only [ux,um] at e
    exact absurd (by rw [←e];exact key i (by simpa using hi)) h.1
   | succ j=>
    simp only [um] at e
    rw [V0 h.2 i j (by simpa using hi) (by simpa using hj) e]
structure oz (l:List Nat) (m next:Nat):Prop where
 len:l.length=m
 nd:ZF l=true
 lt:∀ x∈l,x < next
def ku (l:List Nat) (m next:Nat):Bool:=l.length == m&&ZF l&&l.all fun x=>decide (x < next)
theorem Gt {l:List Nat} {m next:Nat} (h:ku l m next=true):oz l m next:=by
 simp only [ku,ul,beq_iff_eq,ud,decide_eq_true_eq] at h
 exact ⟨h.1.1,h.1.2,h.2⟩
theorem V1 {l:List Nat} {m next:Nat} (P:oz l m next) {i:Nat} (hi:i < m):fB l m next i < next:=by
 simp only [fB,if_pos hi]
 exact P.lt _ (by simp [P.len,hi])
theorem Wk {l:List Nat} {m next:Nat} (P:oz l m next) (i j:Nat) (e:fB l m next i=fB l m next j):i=j:=by
 rcases ui i m with h1 | h1<;>rcases ui j m with h2 | h2
 ·simp only [fB,if_pos h1,if_pos h2] at e
  exact V0 P.nd i j (by rw [P.len];exact h1) (by rw [P.len];exact h2) e
 ·have:=V1 P h1
  simp only [fB,if_neg (uq.2 h2)] at e this
  omega
 ·have:=V1 P h2
  simp only [fB,if_neg (uq.2 h1)] at e this
  omega
 ·simp only [fB,if_neg (uq.2 h1),if_neg (uq.2 h2)] at e
  omega
theorem bJ.dB {C:Ctx} {f m d next:Nat} {args:List AV} {heap bX aN:List (Nat×aF)} {l:List Nat} {r:AV} {K:AV→List (Nat×aF)→Nat→Prop} (hc:lR C f args l m next bX r aN d) (hp:ku l m next=true) (ho:xA heap l=some bX)
  (hK:K r (zL aN heap) (next+d)):bJ C f args heap next K:=by
 obtain ⟨dN,ct,r0,bS,gh,D,T,rfl,rfl,rfl,rfl⟩:=hc
 have P:=Gt hp
 refine ⟨D.dB.1,fun g w vs R hv => ?_⟩
 have AQ:=Gs (φ:=fB l m next) (n:=m+d) (h:=za heap) (fun i j _ _ e=>Wk P i j e) (fun p hp=>(D.k1 p hp).1) (fun i o hi=>kp ho _ (Wj (jo hi))) T
 have:=frame (φ:=fB l m next) (N':=(· < next+d)) D.dB D.k0 D.ka D.k1 D.kr D.all (fun i j _ _ e=>Wk P i j e)
  (fun i o hi=>kp ho _ (Wj (jo hi))) (fun i hi=>V1 P hi) (fun i h1 _=>by simp only [fB,if_neg (uq.2 h1)];omega) (fun j hj=>by omega)
  (fun i hi=>by
   rcases ui i m with h1 | h1
   ·have:=V1 P h1;omega
   ·simp only [fB,if_neg (uq.2 h1)];omega) R hv (by omega)
 refine this.mono ?_
 rintro e w' ⟨v,g',rfl,E,R',hr⟩
 refine ⟨v,_,_,_,g',rfl,hK,?_,?_,?_⟩
 ·rw [jN,←AQ];exact E
 ·rw [jN,←AQ];exact R'
 ·rw [jN,←AQ];exact hr
theorem dF.dB {C:Ctx} {f m next d:Nat} {args:List AV} {heap bX aN:List (Nat×aF)} {l:List Nat} {r:AV} (hc:lR C f args l m next bX r aN d) (hp:ku l m next=true) (ho:xA heap l=some bX) :
  dF C f args (za heap) l r aN (uB next d):=by
 obtain ⟨dN,ct,r0,bS,gh,D,T,rfl,rfl,rfl,rfl⟩:=hc
 have P:=Gt hp
 refine ⟨D.dB.1,fun g h N w vs hag hex R hv => ?_⟩
 have hmem:∀ i o,za ct i=some o→h (fB l m next i)=some (qh (fB l m next) o):=fun i o hi=>by
  have hi':=(D.k0 _ (jo hi)).1
  rw [hag _ (by simp only [fB,if_pos hi'];simp [P.len,hi'])]
  exact kp ho _ (Wj (jo hi))
 have Gu:∀ i,i < m→N (fB l m next i):=fun i hi=>by
  obtain ⟨o,ho⟩:=Option.isSome_iff_exists.1 (D.AP i hi)
  exact R.key _ _ (hmem i o ho)
 have AQ:=Gs (φ:=fB l m next) (n:=m+d) (h:=h) (fun i j _ _ e=>Wk P i j e) (fun p hp=>(D.k1 p hp).1) hmem T
 rw [←AQ]
 have hnew:∀ i,m≤i→i < m+d→fB l m next i∈uB next d:=fun i h1 h2=>by
  rw [List.mem_range'_1];simp only [fB,if_neg (show ¬ i < m by omega)];omega
 exact frame (φ:=fB l m next) (N':=xg N (uB next d)) D.dB D.k0 D.ka D.k1 D.kr D.all (fun i j _ _ e=>Wk P i j e) hmem Gu (fun i h1 h2=>hex _ (hnew i h1 h2)) (fun j hj=>.inl hj)
  (fun i hi=>by
   rcases ui i m with h1 | h1
   ·exact .inl (Gu i h1)
   ·exact .inr (hnew i h1 hi)) R hv (by omega)
theorem gb.dB {C:Ctx} {f m next:Nat} {args:List AV} {heap bX aN:List (Nat×aF)} {l:List Nat} {r:AV} {KD:List Nat→AV→List (Nat×aF)→Prop} (hc:lR C f args l m next bX r aN 0) (hp:ku l m next=true) (ho:xA heap l=some bX)
 (hK:KD l r aN):gb C f args heap KD:=⟨l,_,_,dF.dB hc hp ho,hK⟩
def zc {α:Type} (f:α→List IV) (l:List α):List (List AV):=l.map fun x=>zt (f x)
theorem OQ (φ:Nat→Nat) (r:List IV):yV φ (zt r)=zt r:=by
 simp only [yV,zt,uD]
 exact uy fun x _=>rfl
theorem OR {α:Type} (φ:Nat→Nat) (f:α→List IV) (l:List α):(zc f l).map (yV φ)=zc f l:=by
 simp only [zc,uD]
 exact uy fun x _=>OQ φ (f x)
theorem bw {φ:Nat→Nat}:fR φ []=[]:=rfl
theorem bI {φ:Nat→Nat} {k:Nat} {o:aF} {r s:List (Nat×aF)} (h:fR φ r=s):fR φ ((k,o)::r)=(φ k,qh φ o)::s:=by rw [←h];rfl
theorem bH {φ:Nat→Nat} {k sz:Nat} {α:Type} {f:α→List IV} {l:List α} {r s:List (Nat×aF)} (h:fR φ r=s):fR φ ((k,.af sz (zc f l))::r)=(φ k,.af sz (zc f l))::s:=by
 rw [←h];simp only [fR,qh,OR]
theorem wO {α:Type} (m sz:Nat) (f:α→List IV) (l:List α):z6 m (.af sz (zc f l)):=by
 simp only [z6,zc]
 intro row hr x hx
 obtain ⟨y,_,rfl⟩:=un.1 hr
 obtain ⟨z,_,rfl⟩:=un.1 hx
 rfl
def zp {α β:Type} (kf:α→IV) (vf:β→IV) (es:List (α×β)):List (IV×AV):=es.map fun e=>(kf e.1,.ak (vf e.2))
theorem OS {α β:Type} (m:Nat) (kf:α→IV) (vf:β→IV) (es:List (α×β)):z6 m (.map (zp kf vf es)):=by
 simp only [z6,zp]
 intro e he
 obtain ⟨y,_,rfl⟩:=un.1 he
 rfl
theorem OT {h0 h:Nat→Option aF} (hs:∀ i o,h0 i=some o→h i=some o):∀ (d:Nat) (x:AV) (y:IV),zD h0 d x=some y→zD h d x=some y:=by
 have AR:∀ {β γ:Type} {f f':β→Option γ},(∀ x y,f x=some y→f' x=some y)→∀ (l:List β) (r:List γ),aL f l=some r→aL f' l=some r:=by
  intro β γ f f' hf l
  induction l with
  | nil=>intro r h;exact h
  | cons a l ih=>
   intro r h
   simp only [aL] at h ⊢
   split at h
   ·rename_i b hb
    split at h
    ·rename_i bs rU
     cases h
     rw [hf _ _ hb]
     simp only
     rw [ih _ rU]
    ·cases h
   ·cases h
 intro d
 induction d with
 | zero=>intro x y h;cases h
 | succ d ih=>
  intro x y h
  cases x<;>simp only [zD] at h ⊢ <;> first | exact h | skip
  case map id=>
   split at h
   ·rename_i es ho
    rw [hs _ _ ho]
    simp only
    rw [uc] at h ⊢
    obtain ⟨out,h1,h2⟩:=h
    refine ⟨out,AR (fun e y he => ?_) _ _ h1,h2⟩
    rw [uc] at he ⊢
    obtain ⟨z,h3,h4⟩:=he
    exact ⟨z,ih _ _ h3,h4⟩
   ·cases h
  case Zai id off len=>
   split at h
   ·rename_i sz af ho
    rw [hs _ _ ho]
    simp only
    split at h
    ·rename_i hle
     rw [if_pos hle]
     rw [uc] at h ⊢
     obtain ⟨r,h1,h2⟩:=h
     exact ⟨r,AR (fun row ys hrow=>AR (fun x y hx=>ih x y hx) row ys hrow) _ _ h1,h2⟩
    ·cases h
   ·cases h
  case agg cs=>
   rw [uc] at h ⊢
   obtain ⟨r,h1,h2⟩:=h
   exact ⟨r,AR (fun x y hx=>ih x y hx) _ _ h1,h2⟩
  case tuple cs=>
   rw [uc] at h ⊢
   obtain ⟨r,h1,h2⟩:=h
   exact ⟨r,AR (fun x y hx=>ih x y hx) _ _ h1,h2⟩
theorem Js {h0 h:Nat→Option aF} (hs:∀ i o,h0 i=some o→h i=some o) {d:Nat}:∀ {args:List AV} {dA:List IV},aL (zD h0 d) args=some dA→aL (zD h d) args=some dA
 | [],dA,h=>h
 | a::l,dA,h=>by
  simp only [aL] at h ⊢
  split at h
  ·rename_i b hb
   split at h
   ·rename_i bs rU
    cases h
    rw [OT hs d _ _ hb]
    simp only
    rw [Js hs rU]
   ·cases h
  ·cases h
theorem Jt {heap:List (Nat×aF)} {l:List Nat} {bX:List (Nat×aF)} (h:xA heap l=some bX) (i:Nat) (o:aF) (ho:za bX i=some o):za heap i=some o:=kp h _ (jo ho)
theorem dF.AS {C:Ctx} {f d:Nat} {args:List AV} {heap bX:List (Nat×aF)} {l:List Nat} {dA:List IV} {r:IV} (hp:aJ C f dA r) (ho:xA heap l=some bX) (hl:∀ p∈bX,p.1∈l) (hx:aL (zD (za bX) d) args=some dA) (hf:xL r=true):dF C f args (za heap) l (.ak r) [] []:=by
 refine ⟨hp.1,fun g h N w vs hag hex R hv => ?_⟩
 have hsub:∀ i o,za bX i=some o→h i=some o:=fun i o hi=>by
  rw [hag i (hl _ (jo hi))];exact Jt ho i o hi
 have hx':aL (zD h d) args=some dA:=Js hsub hx
 exact (dF.ou (h0:=h) hp hx' hf).2 g h N w vs (fun _ _=>rfl) hex R hv
theorem Gv {heap:List (Nat×aF)}:∀ {l:List Nat} {bX:List (Nat×aF)},xA heap l=some bX→∀ p∈bX,p.1∈l
 | [],bX,h=>by cases h;intro p hp;cases hp
 | i::l,bX,h=>by
  simp only [xA] at h
  split at h
  ·cases h
  ·rename_i o ho
   split at h
   ·rename_i r hr
    cases h
    intro p hp
    rcases ue.1 hp with rfl | hp
    ·simp
    ·exact uh _ (Gv hr p hp)
   ·cases h
end Go.Proofs.YtlpmnmbebkdocaaGreatDoor
