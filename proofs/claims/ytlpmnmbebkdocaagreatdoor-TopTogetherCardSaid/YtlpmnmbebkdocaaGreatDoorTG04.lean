/-
  The abstract machine: calls in regions that draw their order, and such regions as a demand that can be worked off.
  The abstract machine: code as a demand that simp can work off: what is decided is run; what is not stands still.
  The abstract machine: counted loops, and small facts about numbers.
  The abstract machine: loops whose states are told by the slots that turn; lists.
  Denotations: small facts that printed proofs use.
  Denotations: rows of cells; what the printed proofs use.
  The abstract machine: a contract over a small heap serves in every heap that holds such objects under other names.
  Calls by contracts over small heaps.
-/
import Derived.Test.YtlpmnmbebkdocaaGreatDoorTG03
open List renaming mem_of_getElem? → ua, getElem?_map → ub, all_eq_true → ud, mem_cons → ue, getElem?_eq_some_iff → ug, mem_cons_of_mem → uh, mem_flatMap → uk, getD_cons_succ → um, mem_map → un, flatMap_eq_nil_iff → ur, mem_append_right → uv, mem_append_left → uw, getD_cons_zero → ux, map_congr_left → uy, range' → uB, map_map → uD
open Option renaming map_eq_some_iff → uc
open Bool renaming and_eq_true → ul, not_eq_true' → uA, or_eq_true → uC
open Nat renaming lt_or_ge → ui, le_refl → uj, lt_of_lt_of_le → uo, not_lt → uq, le_max_right → ut, le_max_left → uu, pos_of_ne_zero → uz, blt → uE
namespace Go.Proofs.YtlpmnmbebkdocaaGreatDoor
open Go.RowKit
set_option linter.unusedSimpArgs false
set_option linter.unusedVariables false
section
theorem jZ {α β:Type} {f f':α→Option β}:∀ {l:List α},(∀ x∈l,f' x=f x)→aI f' l=aI f l
 | [],_=>rfl
 | a::r,h=>by
  simp only [aI]
  rw [h a List.mem_cons_self,jZ (l:=r) fun x hx=>h x (uh _ hx)]
def jp (h:Nat→Option aD):Nat→AV→List Nat
 | 0,_=>[]
 | d+1,x=>match x with
  | .agg cs=>cs.flatMap (jp h d)
  | .tuple cs=>cs.flatMap (jp h d)
  | .Zaj id off len=>id::match h id with
   | some (.af _ af)=>((af.drop off).take len).flatMap fun row=>row.flatMap (jp h d)
   | _=>[]
  | .map id=>id::match h id with
   | some (.map es)=>es.flatMap fun e=>jp h d e.2
   | _=>[]
  | _=>[]
theorem VR {h h':Nat→Option aD}:∀ (d:Nat) (x:AV),(∀ i∈jp h d x,h' i=h i)→zC h' d x=zC h d x:=by
 intro d
 induction d with
 | zero=>intro x _;rfl
 | succ d ih=>
  intro x hi
  cases x with
  | agg cs=>
   simp only [zC]
   rw [jZ fun c hc=>ih c fun i hm=>hi i (by simp only [jp,uk];exact ⟨c,hc,hm⟩)]
  | tuple cs=>
   simp only [zC]
   rw [jZ fun c hc=>ih c fun i hm=>hi i (by simp only [jp,uk];exact ⟨c,hc,hm⟩)]
  | Zaj id off len=>
   simp only [zC]
   rw [hi id (by simp [jp])]
   split
   ·rename_i sz af ho
    split
    ·rw [jZ fun row hrow=>jZ fun c hc=>ih c fun i hm=>hi i (by
      simp only [jp,ho,ue,uk]
      exact .inr ⟨row,hrow,c,hc,hm⟩)]
    ·rfl
   ·rfl
  | map id=>
   simp only [zC]
   rw [hi id (by simp [jp])]
   split
   ·rename_i es ho
    rw [jZ fun e he=>by rw [ih e.2 fun i hm=>hi i (by
     simp only [jp,ho,ue,uk]
     exact .inr ⟨e,he,hm⟩)]]
   ·rfl
  | _=>rfl
theorem N1 {h:Nat→Option aD}:∀ (d:Nat) (x:AV),xb d x=true→jp h d x=[]:=by
 intro d
 induction d with
 | zero=>intro x _;rfl
 | succ d ih=>
  intro x hx
  cases x with
  | agg cs=>
   simp only [xb,ud] at hx
   simp only [jp,ur]
   exact fun c hc=>ih c (hx c hc)
  | tuple cs=>
   simp only [xb,ud] at hx
   simp only [jp,ur]
   exact fun c hc=>ih c (hx c hc)
  | Zaj id off len=>simp [xb] at hx
  | map id=>simp [xb] at hx
  | _=>rfl
section
variable {C:Ctx} {nt:Fr} {f:Nat} {args:List AV} {h0:Nat→Option aD} {d:Nat} {dx:List IV} {r:IV}
theorem dz.pure (hp:aJ C f dx r) (hm:(args.all (xb d))=true) (hx:aI (zC h0 d) args=some dx):dz C f args h0 [] (.ap r) [] []:=by
 refine ⟨hp.1,fun g h N w vs _ _ R hv => ?_⟩
 rw [J3]
 have hx':aI (zC h d) args=some dx:=by
  rw [jZ fun x Db=>VR (h:=h0) d x fun i hi => ?_]
  ·exact hx
  ·rw [N1 d x (ud.1 hm x Db)] at hi;cases hi
 obtain ⟨h1,h2⟩:=qi hx'
 refine (hp.2 g.Z w vs R.dX ⟨R.fix.1,R.fix.2.1⟩ ⟨by rw [h1];exact hv.1,fun j c u hc hu => ?_⟩).mono ?_
 ·have hlt:j < args.length:=by rw [←h1];exact (ug.1 hc).1
  obtain ⟨c',h3,h4⟩:=h2 j args[j] (by simp)
  rw [hc] at h3
  cases h3
  exact FK d _ _ _ (ud.1 hm _ (List.getElem_mem hlt)) h4 (hv.2 j args[j] u (by simp) hu)
 ·rintro e w' ⟨v,Z',rfl,hr,hZ,hlt,hB⟩
  exact ⟨v,⟨g.ρ,Z'⟩,rfl,wc R hB hZ,Zs R hB hZ hlt,.ap _ _ hr⟩
theorem dz.oe (hp:aJ C f dx r) (hx:aI (zC h0 d) args=some dx) (hf:xL r=true):dz C f args h0 (args.flatMap (jp h0 d)) (.ap r) [] []:=by
 refine ⟨hp.1,fun g h N w vs hag _ R hv => ?_⟩
 rw [J3]
 have hx':aI (zC h d) args=some dx:=by
  rw [jZ fun x Db=>VR (h:=h0) d x fun i hi=>hag i (uk.2 ⟨x,Db,hi⟩)]
  exact hx
 obtain ⟨h1,h2⟩:=qi hx'
 let Z1:Nat→Nat:=fun b=>match w.heap[b]? with
  | some (.cells c _ _)=>max (g.Z b) c.size
  | some (.map _ _)=>max (g.Z b) 1
  | _=>g.Z b
 have iz:∀ b,g.Z b≤Z1 b:=fun b=>by
  show g.Z b≤(match w.heap[b]? with | some (.cells c _ _)=>max (g.Z b) c.size | some (.map _ _)=>max (g.Z b) 1 | _=>g.Z b)
  split
  ·exact uu _ _
  ·exact uu _ _
  ·exact uj _
 have sA:∀ b,0 < Z1 b→b < w.heap.size:=fun b hb=>by
  rcases ui b w.heap.size with h | h
  ·exact h
  ·have hn:w.heap[b]?=none:=Array.getElem?_eq_none h
   have:Z1 b=g.Z b:=by show (match w.heap[b]? with | some (.cells c _ _)=>max (g.Z b) c.size | some (.map _ _)=>max (g.Z b) 1 | _=>g.Z b)=g.Z b;rw [hn]
   exact R.dX b (by omega)
 have hO:∀ i b sz af,g.ρ i=some b→h i=some (.af sz af)→af.length*sz≤Z1 b:=fun i b sz af hb ho=>by
  obtain ⟨hz,c,e,hc,hlen,hcells⟩:=R.obj i b _ hb ho
  have hZ:Z1 b=max (g.Z b) c.size:=by show (match w.heap[b]? with | some (.cells c _ _)=>max (g.Z b) c.size | some (.map _ _)=>max (g.Z b) 1 | _=>g.Z b)=_;rw [hc]
  rw [hZ]
  refine Nat.le_trans ?_ (ut _ _)
  rcases Nat.eq_zero_or_pos (af.length*sz) with h0 | h0
  ·omega
  ·have hs:0 < sz:=uz fun e=>by subst e;simp at h0
   have hr:0 < af.length:=uz fun e=>by rw [e] at h0;simp at h0
   have hrow:af[af.length - 1]?=some (af[af.length - 1]'(by omega)):=by simp
   have hl:=hlen _ _ hrow
   obtain ⟨cv,h3,_⟩:=hcells (af.length - 1) _ (sz - 1) ((af[af.length - 1]'(by omega))[sz - 1]'(by omega)) hrow (by simp)
   have hlt:=(Array.getElem?_eq_some_iff.1 h3).1
   have:(af.length - 1)*sz+sz=af.length*sz:=by
    rw [←Nat.succ_mul];congr 1;omega
   omega
 have hM:∀ i b es,g.ρ i=some b→h i=some (.map es)→0 < Z1 b:=fun i b es hb ho=>by
  obtain ⟨hz,cF,clock,hw,_⟩:=R.obj i b _ hb ho
  have hZ:Z1 b=max (g.Z b) 1:=by show (match w.heap[b]? with | some (.cells c _ _)=>max (g.Z b) c.size | some (.map _ _)=>max (g.Z b) 1 | _=>g.Z b)=_;rw [hw]
  rw [hZ]
  exact uo Nat.zero_lt_one (ut _ _)
 refine (hp.2 Z1 w vs sA ⟨R.fix.1,R.fix.2.1⟩ ⟨by rw [h1];exact hv.1,fun j c u hc hu => ?_⟩).mono ?_
 ·have hlt:j < args.length:=by rw [←h1];exact (ug.1 hc).1
  obtain ⟨c',h3,h4⟩:=h2 j args[j] (by simp)
  rw [hc] at h3
  cases h3
  exact YV R Z1 iz hO hM d _ _ _ h4 (hv.2 j args[j] u (by simp) hu)
 ·rintro e w' ⟨v,Z',rfl,hr,hZ,hlt,hB⟩
  exact ⟨v,g,rfl,wc (Z':=g.Z) R hB (fun _ _=>rfl),Zs (Z':=g.Z) R hB (fun _ _=>rfl) (fun b hb=>uo (R.dX b hb) hB.size),.ap _ _ (FL hf hr)⟩
end
def gj (C:Ctx) (f:Nat) (args:List AV) (heap:List (Nat×aD)) (KD:List Nat→AV→List (Nat×aD)→Prop):Prop:=∃ rd r aN,dz C f args (za heap) rd r aN []∧KD rd r aN
theorem gj.pure {C:Ctx} {f:Nat} {args:List AV} {heap:List (Nat×aD)} {d:Nat} {dx:List IV} {r:IV} {KD:List Nat→AV→List (Nat×aD)→Prop} (hp:aJ C f dx r) (hm:(args.all (xb d))=true) (hx:aI (zC (za heap) d) args=some dx)
 (hK:KD [] (.ap r) []):gj C f args heap KD:=⟨_,_,_,dz.pure hp hm hx,hK⟩
theorem gj.oe {C:Ctx} {f:Nat} {args:List AV} {heap:List (Nat×aD)} {d:Nat} {dx:List IV} {r:IV} {KD:List Nat→AV→List (Nat×aD)→Prop} (hp:aJ C f dx r) (hx:aI (zC (za heap) d) args=some dx) (hf:xL r=true)
 (hK:KD (args.flatMap (jp (za heap) d)) (.ap r) []):gj C f args heap KD:=⟨_,_,_,dz.oe hp hx hf,hK⟩
def xh (ord:List Nat) (j:Nat) (W R:List (Nat×Nat)) (us rd:List Nat):Bool:=
 (W.all fun p=>!(us.contains p.2||rd.contains p.2)||ed ord p.1 j)&&us.all fun x=>R.all fun p=>!(p.2 == x)||ed ord p.1 j
def qY (j:Nat) (l:List Nat) (W:List (Nat×Nat)):List (Nat×Nat):=l.map (fun x=>(j,x))++W
def oq (ord:List Nat) (j:Nat) (W R:List (Nat×Nat)) (dst:Option Nat) (st:St) (next:Nat→List (Nat×Nat)→List (Nat×Nat)→St→Prop):List Nat→AV→List (Nat×aD)→Prop:=
 fun rd r aN=>xh ord j W R (z6 aN) rd=true∧next (j+1) (qY j (z6 aN) W) (qY j rd R) (st.after dst r aN)
def BP (dst:Option Nat) (st:St) (next:St→Prop):List Nat→AV→List (Nat×aD)→Prop:=fun rd r aN=>aN=[]∧next (st.after dst r [])
def qr (KD:List Nat→AV→List (Nat×aD)→Prop) (rd:List Nat):Option (AV×List (Nat×aD))→Prop
 | some (r,aN)=>KD rd r aN
 | none=>False
def BQ (C:Ctx) (KD:List Nat→AV→List (Nat×aD)→Prop) (heap:List (Nat×aD)) (args:List AV):AV→Prop
 | .func f first bt=>gj C f (first++args++bt) heap KD
 | _=>False
def dW (C:Ctx) (KD:List Nat→AV→List (Nat×aD)→Prop) (st:St):cO→Prop
 | .call f args=>BQ C KD st.heap (args.map (zd st.env)) (zd st.env f)
 | op=>qr KD (zj op (zd st.env)) (ai op (zd st.env) (za st.heap) st.next)
def dG (C:Ctx) (op:cO) (KD:List Nat→AV→List (Nat×aD)→Prop) (st:St):Bool→Prop
 | true=>dW C KD st op
 | false=>KD [] .undef []
def sG (C:Ctx) (op:cO) (KD:List Nat→AV→List (Nat×aD)→Prop) (st:St) (want:Bool):AV→Prop
 | .ap (.bool b)=>dG C op KD st (b == want)
 | .undef=>dG C op KD st false
 | _=>False
def rB (C:Ctx) (it:aM) (KD:List Nat→AV→List (Nat×aD)→Prop) (st:St):Prop:=match it.guard with
 | none=>dW C KD st it.op
 | some (t,want)=>sG C it.op KD st want ((za st.env t).getD .top)
def lD (C:Ctx) (ord:List Nat) (K:St→Prop):List aM→Nat→List (Nat×Nat)→List (Nat×Nat)→St→Prop
 | [],_,_,_,st=>K st
 | it::rest,j,W,R,st=>rB C it (oq ord j W R it.dst st (lD C ord K rest)) st
def rC (C:Ctx) (K:St→Prop):List aM→St→Prop
 | [],st=>K st
 | it::rest,st=>rB C it (BP it.dst st (rC C K rest)) st
section
variable {C:Ctx} {nt:Fr}
theorem FQ {it:aM} {KD:List Nat→AV→List (Nat×aD)→Prop} {st:St} (h:rB C it KD st):∃ rc:Rec,rc.dst=it.dst∧ny C it st rc∧KD rc.rd rc.r rc.aN∧rc.ex=[]:=by
 have op:∀ {g},z8 st.env it.guard=some true→g=it.guard→dW C KD st it.op→∃ rc:Rec,rc.dst=it.dst∧ny C it st rc∧KD rc.rd rc.r rc.aN∧rc.ex=[]:=fun hg _ ho=>by
  obtain ⟨dst,op,gd⟩:=it
  simp only at ho hg
  cases op
  case call f args=>
   simp only [dW,BQ] at ho
   split at ho
   ·rename_i f' first bt hf
    obtain ⟨rd,r,aN,hl,hk⟩:=ho
    refine ⟨⟨dst,r,aN,rd,[]⟩,rfl,?_,hk,rfl⟩
    simp only [ny,hg,hf]
    exact hl
   ·exact ho.elim
  all_goals
   simp only [dW,qr] at ho
   split at ho
   ·rename_i r aN iq
    refine ⟨⟨dst,r,aN,_,[]⟩,rfl,?_,ho,rfl⟩
    simp only [ny,hg]
    exact ⟨iq,rfl,trivial⟩
   ·exact ho.elim
 have off:z8 st.env it.guard=some false→KD [] .undef []→∃ rc:Rec,rc.dst=it.dst∧ny C it st rc∧KD rc.rd rc.r rc.aN∧rc.ex=[]:=fun hg ho=>by
  refine ⟨⟨it.dst,.undef,[],[],[]⟩,rfl,?_,ho,rfl⟩
  simp only [ny,hg,and_self]
 unfold rB at h
 split at h
 ·rename_i hg;exact op (by rw [hg];rfl) hg.symm h
 ·rename_i t want hg
  unfold sG at h
  split at h
  ·rename_i b hb
   cases mO:(b == want) with
   | true=>rw [mO] at h;exact op (by rw [hg];simp only [z8,hb,mO]) hg.symm h
   | false=>rw [mO] at h;exact off (by rw [hg];simp only [z8,hb,mO]) h
  ·rename_i hb;exact off (by rw [hg];simp only [z8,hb]) h
  ·exact h.elim
theorem W3 {ord:List Nat} {recs:List Rec} (h:∀ (i j:Nat) (ri rj:Rec),recs[i]?=some ri→recs[j]?=some rj→i < j→jU ri rj=true→ed ord i j=true):Q8 ord recs=true:=by
 unfold Q8
 refine ud.2 fun j hj => ?_
 split
 ·rename_i rj lS
  refine Bool.or_eq_true_iff.2 (.inr (ud.2 fun i hi => ?_))
  simp at hi
  split
  ·rename_i ri gq
   cases hc:jU ri rj with
   | true=>simp [h i j ri rj gq lS hi hc]
   | false=>simp
  ·rfl
 ·rfl
theorem FR {ord:List Nat} {K:St→Prop}:∀ (items:List aM) (W R:List (Nat×Nat)) (st:St) (pre:List Rec),lD C ord K items pre.length W R st →
  (∀ (i:Nat) (ri:Rec) (x:Nat),pre[i]?=some ri→x∈z6 ri.aN→(i,x)∈W)→(∀ (i:Nat) (ri:Rec) (x:Nat),pre[i]?=some ri→x∈ri.rd→(i,x)∈R) →
  (∀ (i j:Nat) (ri rj:Rec),pre[i]?=some ri→pre[j]?=some rj→i < j→jU ri rj=true→ed ord i j=true) →
  ∃ recs aX,Qq C items st recs aX∧(∀ (i j:Nat) (ri rj:Rec),(pre++recs)[i]?=some ri→(pre++recs)[j]?=some rj→i < j→jU ri rj=true→ed ord i j=true)∧K aX∧∀ rc∈recs,rc.ex=[]
 | [],W,R,st,pre,h,hW,hR,hp=>⟨[],st,rfl,by simpa using hp,h,by simp⟩
 | it::rest,W,R,st,pre,h,hW,hR,hp=>by
  obtain ⟨rc,h1,h2,⟨hok,h3⟩,hx0⟩:=FQ h
  have hlen:(pre++[rc]).length=pre.length+1:=by simp
  have split:∀ (i:Nat) (ri:Rec),(pre++[rc])[i]?=some ri→pre[i]?=some ri∨(i=pre.length∧ri=rc):=fun i ri hi=>by
   rw [List.getElem?_append] at hi
   split at hi
   ·exact .inl hi
   ·rename_i hge
    rcases Nat.eq_or_lt_of_le (Nat.le_of_not_lt hge) with e | e
    ·rw [←e] at hi;simp at hi;exact .inr ⟨e.symm,hi.symm⟩
    ·have:i - pre.length≠0:=by omega
     obtain ⟨m,hm⟩:=Nat.exists_eq_succ_of_ne_zero this
     rw [hm] at hi;simp at hi
  obtain ⟨recs,aX,h4,h5,h6,hx1⟩:=FR rest (qY pre.length (z6 rc.aN) W) (qY pre.length rc.rd R) (st.after it.dst rc.r rc.aN) (pre++[rc]) (by rw [hlen];exact h3)
   (fun i ri x hi hx=>by
    rcases split i ri hi with hi | ⟨rfl,rfl⟩
    ·exact uv _ (hW i ri x hi hx)
    ·exact uw _ (un.2 ⟨x,hx,rfl⟩))
   (fun i ri x hi hx=>by
    rcases split i ri hi with hi | ⟨rfl,rfl⟩
    ·exact uv _ (hR i ri x hi hx)
    ·exact uw _ (un.2 ⟨x,hx,rfl⟩))
   (fun i j ri rj hi hj hlt hc=>by
    rcases split j rj hj with hj | ⟨rfl,rfl⟩
    ·rcases split i ri hi with hi | ⟨rfl,rfl⟩
     ·exact hp i j ri rj hi hj hlt hc
     ·have:=(ug.1 hj).1;omega
    ·rcases split i ri hi with hi | ⟨rfl,rfl⟩
     ·simp only [xh,ul,ud] at hok
      simp only [jU,uC,List.any_eq_true] at hc
      rcases hc with ⟨x,hx,hc⟩ | ⟨x,hx,hc⟩
      ·have:=hok.1 (i,x) (hW i ri x hi hx)
       simp only [uC,uA,Bool.or_eq_false_iff] at this
       rcases this with ⟨h7,h8⟩ | h7
       ·simp only [h7,h8] at hc;simp at hc
       ·exact h7
      ·have:=hok.2 x hx (i,x) (hR i ri x hi (by simpa using hc))
       simpa using this
     ·omega)
  refine ⟨rc::recs,aX,⟨h1,h2,h4⟩,?_,h6,fun r hr => ?_⟩
  ·simpa using h5
  ·rcases ue.1 hr with rfl | hr
   ·exact hx0
   ·exact hx1 r hr
theorem FT {K:St→Prop}:∀ (items:List aM) (st:St),rC C K items st→∃ recs aX,Qq C items st recs aX∧(∀ rc∈recs,rc.aN=[])∧K aX∧∀ rc∈recs,rc.ex=[]
 | [],st,h=>⟨[],st,rfl,by simp,h,by simp⟩
 | it::rest,st,h=>by
  obtain ⟨rc,h1,h2,⟨hu,h3⟩,hx0⟩:=FQ h
  obtain ⟨recs,aX,h4,h5,h6,hx1⟩:=FT rest _ h3
  refine ⟨rc::recs,aX,⟨h1,h2,by rw [hu];exact h4⟩,fun r hr => ?_,h6,fun r hr => ?_⟩
  ·rcases ue.1 hr with rfl | hr
   ·exact hu
   ·exact h5 r hr
  ·rcases ue.1 hr with rfl | hr
   ·exact hx0
   ·exact hx1 r hr
theorem FU {n0:Nat} {recs:List Rec} (h:∀ rc∈recs,rc.ex=[]):YX n0 recs:=by
 constructor
 ·intro k rc i hk hi
  rw [h rc (ua hk)] at hi;cases hi
 ·intro k l rk rl i hk _ hi
  rw [h rk (ua hk)] at hi;cases hi
def X3 (items:List aM):Bool:=items.all fun it=>match it.op with
 | .alloc _ _ | .box _ _ | .cU _ _ _ _ | .store _ _ _ | .fc | .upd _ _ _ _ | .mks _ _ _ _ | .app _ _ _ _ | .copy _ _ _=>false
 | _=>true
theorem N2 {C:bz} {ord:List Nat} {items:List aM} {ks:Option (List Nat)} {K:Exit→St→Prop} {st:St} (h:lD C ord (fun aX=>K .normal (aX.keep ks)) items 0 [] [] st):cB C nt (.region true ord items ks) K st:=by
 obtain ⟨recs,aX,h1,h2,h3,h4⟩:=FR (ord:=ord) items [] [] st [] h (by simp) (by simp) (by simp)
 exact W2 h1 (W3 (by simpa using h2)) (FU h4) aX.next (uj _) (fun rc hr i hi=>by rw [h4 rc hr] at hi;cases hi) h3
theorem N3 {C:bz} {ord:List Nat} {items:List aM} {ks:Option (List Nat)} {K:Exit→St→Prop} {st:St} (h:rC C (fun aX=>K .normal (aX.keep ks)) items st):cB C nt (.region true ord items ks) K st:=by
 obtain ⟨recs,aX,h1,h2,h3,h4⟩:=FT items st h
 refine W2 h1 (W3 fun i j ri rj hi hj hlt hc => ?_) (FU h4) aX.next (uj _) (fun rc hr i hi=>by rw [h4 rc hr] at hi;cases hi) h3
 simp [jU,z6,h2 ri (ua hi),h2 rj (ua hj)] at hc
end
end
section
def yl (dst:Option Nat) (env:List (Nat×AV)) (K:St→Prop):AV→List (Nat×aD)→Nat→Prop:=fun r heap' next'=>K (St.put {env:=env,heap:=heap',next:=next'+1} dst r)
def z7 (dst:Option Nat) (K:St→Prop) (st:St):Option (AV×List (Nat×aD))→Prop
 | some (r,aN)=>K (st.after dst r aN)
 | none=>False
def VT (C:bz) (dst:Option Nat) (K:St→Prop) (st:St) (args:List AV):AV→Prop
 | .func f first bt=>bH C f (first++args++bt) st.heap st.next (yl dst st.env K)
 | .eH l id=>C.Y l id args st.heap st.next (yl dst st.env K)
 | _=>False
def bX (C:bz) (dst:Option Nat) (K:St→Prop) (st:St):cO→Prop
 | .call f args=>VT C dst K st (args.map (zd st.env)) (zd st.env f)
 | op=>z7 dst K st (ai op (zd st.env) (za st.heap) st.next)
def tO (C:bz) (dst:Option Nat) (op:cO) (K:St→Prop) (st:St):Bool→Prop
 | true=>bX C dst K st op
 | false=>K (st.after dst .undef [])
def J5 (C:bz) (dst:Option Nat) (op:cO) (K:St→Prop) (st:St) (want:Bool):AV→Prop
 | .ap (.bool b)=>tO C dst op K st (b == want)
 | .undef=>tO C dst op K st false
 | _=>False
def J6 (C:bz) (it:aM) (K:St→Prop) (st:St):Prop:=match it.guard with
 | none=>bX C it.dst K st it.op
 | some (t,want)=>J5 C it.dst it.op K st want ((za st.env t).getD .top)
theorem FV (C:bz) (dst:Option Nat) (op:cO) (g:Option (Nat×Bool)) (K:St→Prop) (st:St) (hg:z8 st.env g=some true):vL C ⟨dst,op,g⟩ st K=bX C dst K st op:=by
 unfold vL
 rw [hg]
 cases op
 case call f args=>
  simp only [bX]
  cases zd st.env f<;>rfl
 all_goals
  simp only [bX]
  generalize ai _ _ _ _=r
  rcases r with _ | ⟨r,aN⟩<;>rfl
theorem N4 (C:bz) (it:aM) (K:St→Prop) (st:St) (h:J6 C it K st):vL C it st K:=by
 obtain ⟨dst,op,g⟩:=it
 unfold J6 at h
 split at h
 ·rename_i hg
  simp only at hg
  subst hg
  rw [FV C dst op none K st rfl]
  exact h
 ·rename_i t want hg
  simp only at hg
  subst hg
  unfold J5 at h
  split at h
  ·rename_i b hb
   cases mO:(b == want) with
   | true=>
    rw [mO] at h
    rw [FV C dst op _ K st (by simp only [z8,hb,mO])]
    exact h
   | false=>
    rw [mO] at h
    unfold vL
    simp only [z8,hb,mO]
    exact h
  ·rename_i hb
   unfold vL
   simp only [z8,hb]
   exact h
  ·exact h.elim
def mj (C:bz):List aM→(St→Prop)→St→Prop
 | [],K,st=>K st
 | it::rest,K,st=>J6 C it (mj C rest K) st
theorem Zc (C:bz):∀ (l:List aM) (K:St→Prop) (st:St),mj C l K st→AA C l K st
 | [],K,st,h=>h
 | it::rest,K,st,h=>by
  have:mj C rest K=mj C rest K:=rfl
  have h1:=N4 C it _ st h
  simp only [AA]
  unfold vL at h1 ⊢
  split
  ·rename_i hg;rw [hg] at h1;exact Zc C rest K _ h1
  ·rename_i hg
   rw [hg] at h1
   simp only at h1
   split
   ·rename_i f args hop
    rw [hop] at h1
    simp only at h1
    split
    ·rename_i hf
     rw [hf] at h1
     exact bH.mono (fun r h n hk=>Zc C rest K _ hk) h1
    ·rename_i l id hf
     rw [hf] at h1
     exact C.n8 _ _ _ _ _ _ _ (fun r h n hk=>Zc C rest K _ hk) h1
    ·rename_i hf Dc
     split at h1
     ·rename_i f' first bt Dd;exact absurd Dd (hf _ _ _)
     ·rename_i l id Dd;exact absurd Dd (Dc _ _)
     ·exact h1
   ·rename_i hop
    split at h1
    ·rename_i f args h3;exact absurd h3 (hop _ _)
    ·split
     ·rename_i r aN iq;rw [iq] at h1;exact Zc C rest K _ h1
     ·rename_i iq;rw [iq] at h1;exact h1
  ·rename_i hg;rw [hg] at h1;exact h1
def AL (b:AV) (x y:St→Prop) (st:St):Prop:=match b with
 | .ap (.bool true)=>x st
 | .ap (.bool false)=>y st
 | _=>False
def Zw (ks:Option (List Nat)) (K:Exit→St→Prop):St→Prop:=fun st=>K .normal (st.keep ks)
def tP (C:bz) (b:Bool) (ord:List Nat) (items:List aM) (K:St→Prop) (st:St):Prop:=match b with
 | true=>rC C K items st
 | false=>lD C ord K items 0 [] [] st
def gu (C:bz) (nt:Fr):cA→(Exit→St→Prop)→St→Prop
 | .skip,K,st=>K .normal st
 | .region false _ items ks,K,st=>mj C items (Zw ks K) st
 | .region true ord items ks,K,st=>tP C (X3 items) ord items (Zw ks K) st
 | .seq x y,K,st=>gu C nt x (vM (gu C nt y K) K) st
 | .cond c x y,K,st=>AL (zd st.env c) (gu C nt x K) (gu C nt y K) st
 | .block id x,K,st=>gu C nt x (xS id K) st
 | .loop x,K,st=>cB C nt (.loop x) K st
 | .scope x,K,st=>C.ro=none∧gu C nt x (Qy K) st
 | .range f ps x y,K,st=>cB C nt (.range f ps x y) K st
 | .exit id,K,st=>K (.exit id) st
 | .ret,K,st=>K .ret st
theorem vp {C:bz} {nt:Fr}:∀ {c:cA} {K:Exit→St→Prop} {st:St},gu C nt c K st→cB C nt c K st
 | .skip,K,st,h=>Zr h
 | .region false _ items ks,K,st,h=>VM (Zc C items _ st h)
 | .region true ord items ks,K,st,h=>by
  simp only [gu,tP] at h
  split at h
  ·exact N3 h
  ·exact N2 h
 | .seq x y,K,st,h=>by
  have h1:cB C nt x (vM (gu C nt y K) K) st:=vp (c:=x) h
  refine qg (qI (fun e aX hk => ?_) h1)
  cases e with
  | normal=>exact vp (c:=y) hk
  | _=>exact hk
 | .cond c x y,K,st,h=>by
  simp only [gu,AL] at h
  split at h
  ·rename_i hb;exact xw true hb (fun _=>vp h) (fun h=>by cases h)
  ·rename_i hb;exact xw false hb (fun h=>by cases h) (fun _=>vp h)
  ·exact h.elim
 | .block id x,K,st,h=>vn (vp (c:=x) h)
 | .loop x,K,st,h=>h
 | .scope x,K,st,h=>KQ h.1 (vp (c:=x) h.2)
 | .range f ps x y,K,st,h=>h
 | .exit id,K,st,h=>Q6 h
 | .ret,K,st,h=>X2 h
section
variable {C:bz} {nt:Fr} {env:List (Nat×AV)} {heap:List (Nat×aD)} {next:Nat} {dst:Option Nat} {K:St→Prop} {KE:Exit→St→Prop} {st:St}
@[simp] theorem zoZ:gu C nt .skip KE st=KE .normal st:=rfl
@[simp] theorem zne (o:List Nat) (items:List aM) (ks:Option (List Nat)):gu C nt (.region false o items ks) KE st=mj C items (Zw ks KE) st:=rfl
@[simp] theorem zo0 (o:List Nat) (items:List aM) (ks:Option (List Nat)):gu C nt (.region true o items ks) KE st=tP C (X3 items) o items (Zw ks KE) st:=rfl
@[simp] theorem zo1 (o:List Nat) (items:List aM):tP C true o items K st=rC C K items st:=rfl
@[simp] theorem zoo (o:List Nat) (items:List aM):tP C false o items K st=lD C o K items 0 [] [] st:=rfl
@[simp] theorem zpO (x y:cA):gu C nt (.seq x y) KE st=gu C nt x (vM (gu C nt y KE) KE) st:=rfl
@[simp] theorem zo2 (c:aZ) (x y:cA):gu C nt (.cond c x y) KE st=AL (zd st.env c) (gu C nt x KE) (gu C nt y KE) st:=rfl
@[simp] theorem zop (id:Nat) (x:cA):gu C nt (.block id x) KE st=gu C nt x (xS id KE) st:=rfl
@[simp] theorem zo3 (id:Nat):gu C nt (.exit id) KE st=KE (.exit id) st:=rfl
@[simp] theorem zpP:gu C nt .ret KE st=KE .ret st:=rfl
@[simp] theorem zo4 (x y:St→Prop):AL (.ap (.bool true)) x y st=x st:=rfl
@[simp] theorem zoq (x y:St→Prop):AL (.ap (.bool false)) x y st=y st:=rfl
@[simp] theorem zm6 (n:St→Prop):vM n KE .normal st=n st:=rfl
@[simp] theorem zor (n:St→Prop) (id:Nat):vM n KE (.exit id) st=KE (.exit id) st:=rfl
@[simp] theorem zo5 (n:St→Prop):vM n KE .ret st=KE .ret st:=rfl
@[simp] theorem zjU (id:Nat):xS id KE .normal st=KE .normal st:=rfl
@[simp] theorem zm7 (id:Nat):xS id KE .ret st=KE .ret st:=rfl
@[simp] theorem N5 (id id':Nat):xS id KE (.exit id') st=if id'=id then KE .normal st else KE (.exit id') st:=rfl
@[simp] theorem zjV:Qy KE .normal st=KE .normal st:=rfl
@[simp] theorem zk4 (id:Nat):Qy KE (.exit id) st=KE (.exit id) st:=rfl
@[simp] theorem zm8:Qy KE .ret st=KE .ret st:=rfl
@[simp] theorem J7 (ks:List Nat):Zw (some ks) KE ⟨env,heap,next⟩=KE .normal ⟨qC ks env,heap,next⟩:=rfl
@[simp] theorem zos:Zw none KE st=KE .normal st:=rfl
@[simp] theorem zm9 (ks:List Nat):qC ks []=[]:=rfl
@[simp] theorem zk5 (ks:List Nat) (k:Nat) (v:AV) (r:List (Nat×AV)):qC ks ((k,v)::r)=bif ks.contains k then (k,v)::qC ks r else qC ks r:=by
 simp only [qC,List.filter_cons];cases ks.contains k<;>rfl
@[simp] theorem FW:mj C [] K st=K st:=rfl
@[simp] theorem Jb (it:aM) (r:List aM):mj C (it::r) K st=J6 C it (mj C r K) st:=rfl
@[simp] theorem ZW (op:cO):J6 C ⟨dst,op,none⟩ K st=bX C dst K st op:=rfl
@[simp] theorem zot (op:cO) (t:Nat) (want:Bool):J6 C ⟨dst,op,some (t,want)⟩ K st=J5 C dst op K st want ((za st.env t).getD .top):=rfl
@[simp] theorem znf (op:cO) (want:Bool):J5 C dst op K st want .undef=K (st.after dst .undef []):=rfl
@[simp] theorem zou (op:cO) (b:Bool):J5 C dst op K st true (.ap (.bool b))=tO C dst op K st b:=by simp [J5]
@[simp] theorem zng (op:cO) (b:Bool):J5 C dst op K st false (.ap (.bool b))=tO C dst op K st (!b):=by cases b<;>rfl
@[simp] theorem zo6 (op:cO):tO C dst op K st true=bX C dst K st op:=rfl
@[simp] theorem zov (op:cO):tO C dst op K st false=K (st.after dst .undef []):=rfl
@[simp] theorem kN (r:AV) (aN:List (Nat×aD)):z7 dst K st (some (r,aN))=K (st.after dst r aN):=rfl
@[simp] theorem znh:z7 dst K st none=False:=rfl
@[simp] theorem KU (f:aZ) (args:List aZ):bX C dst K ⟨env,heap,next⟩ (.call f args)=VT C dst K ⟨env,heap,next⟩ (args.map (zd env)) (zd env f):=rfl
@[simp] theorem WK (args:List AV) (f:Nat) (first bt:List AV):VT C dst K ⟨env,heap,next⟩ args (.func f first bt)=bH C f (first++args++bt) heap next (yl dst env K):=rfl
@[simp] theorem J8 (d:Nat) (r:AV) (heap':List (Nat×aD)) (next':Nat):yl (some d) env K r heap' next'=K ⟨zk env d r,heap',next'+1⟩:=rfl
@[simp] theorem zk6 (r:AV) (heap':List (Nat×aD)) (next':Nat):yl none env K r heap' next'=K ⟨env,heap',next'+1⟩:=rfl
@[simp] theorem kO (d:Nat) (r:AV) (aN:List (Nat×aD)):St.after ⟨env,heap,next⟩ (some d) r aN=⟨zk env d r,zL aN heap,next+1⟩:=rfl
@[simp] theorem zni (r:AV) (aN:List (Nat×aD)):St.after ⟨env,heap,next⟩ none r aN=⟨env,zL aN heap,next+1⟩:=rfl
@[simp] theorem vO:zL [] heap=heap:=rfl
@[simp] theorem JH (k:Nat) (o:aD) (r:List (Nat×aD)):zL ((k,o)::r) heap=zo (zL r heap) k o:=rfl
@[simp] theorem zow {α:Type} (i:Nat) (v:α):zo [] i v=[(i,v)]:=rfl
@[simp] theorem znj {α:Type} (k i:Nat) (v u:α) (r:List (Nat×α)):zo ((k,v)::r) i u=if k=i then (i,u)::r else if k=999999 then (i,u)::(k,v)::r else (k,v)::zo r i u:=rfl
@[simp] theorem KW {α:Type} (i:Nat):za ([]:List (Nat×α)) i=none:=rfl
@[simp] theorem kP {α:Type} (k i:Nat) (v:α) (r:List (Nat×α)):za ((k,v)::r) i=if k=i then some v else za r i:=rfl
@[simp] theorem ZX {α:Type} (i:Nat) (v:α):zk [] i v=[(i,v)]:=rfl
@[simp] theorem kQ {α:Type} (k i:Nat) (v u:α) (r:List (Nat×α)):zk ((k,v)::r) i u=if k=i then (i,u)::r else (k,v)::zk r i u:=rfl
@[simp] theorem FX (n:Nat):zd env (.t n)=(za env n).getD .top:=rfl
@[simp] theorem zpQ (x:AV):zd env (.c x)=x:=rfl
@[simp] theorem znk (i:Nat):jn i []=[]:=rfl
@[simp] theorem zna (i:Nat) (x:AV) (xs:List AV):jn i (x::xs)=(i,x)::jn (i+1) xs:=rfl
@[simp] theorem zo7 {α β:Type} (f:α→Option β):aI f []=some []:=rfl
@[simp] theorem zox {α β:Type} (f:α→Option β) (a:α) (r:List α):aI f (a::r)=match f a with
 | some b=>match aI f r with
  | some bs=>some (b::bs)
  | none=>none
 | none=>none:=rfl
def Jc (KA:AV→List (Nat×aD)→Nat→Prop) (heap:List (Nat×aD)) (next:Nat):Option AV→Prop
 | some r=>KA r heap next
 | none=>False
def kR (rs:List dy) (KA:AV→List (Nat×aD)→Nat→Prop):Exit→St→Prop
 | .ret,st | .normal,st=>Jc KA st.heap st.next (ja rs st)
 | _,_=>False
theorem bH.run {C:Ctx} {f:Nat} {F:dw} (hF:qn C f=some F.erase) {args:List AV} {KA:AV→List (Nat×aD)→Nat→Prop} (hn:args.length≤F.nt)
 (h:∀ B,gu C.plain ⟨F.nt,B⟩ F.body (kR F.results KA) {env:=jn 0 args,heap:=heap,next:=next}):bH C f args heap next KA:=bH.enter hF hn (fun B=>qI (fun e st hk=>by
  have key:∀ {o:Option AV},Jc KA st.heap st.next o→∃ r,o=some r∧KA r st.heap st.next:=fun {o} ho=>by
   cases o with
   | none=>exact ho.elim
   | some r=>exact ⟨r,rfl,ho⟩
  cases e with
  | ret=>exact ⟨.inl rfl,key hk⟩
  | normal=>exact ⟨.inr rfl,key hk⟩
  | _=>exact hk.elim) (vp (h B)))
def J9 (d:Nat) (r:IV):AV→List (Nat×aD)→Nat→Prop:=fun x heap _=>zC (za heap) d x=some r
@[simp] theorem zpR (d:Nat) (r:IV) (x:AV):J9 d r x heap next=(zC (za heap) d x=some r):=rfl
theorem aJ.run {C:Ctx} {f:Nat} {F:dw} (hF:qn C f=some F.erase) {args:List IV} {r:IV} (d:Nat) (hn:args.length≤F.nt)
 (h:∀ B,gu C.plain ⟨F.nt,B⟩ F.body (kR F.results (J9 d r)) {env:=jn 0 (args.map .ap),heap:=[],next:=0}):aJ C f args r:=aJ.of (d:=d) (bH.run hF (by simpa using hn) h)
variable {KA:AV→List (Nat×aD)→Nat→Prop}
@[simp] theorem zoy (rs:List dy):kR rs KA .ret ⟨env,heap,next⟩=Jc KA heap next (ja rs ⟨env,heap,next⟩):=rfl
@[simp] theorem zk7 (rs:List dy):kR rs KA .normal ⟨env,heap,next⟩=Jc KA heap next (ja rs ⟨env,heap,next⟩):=rfl
@[simp] theorem zoz (r:AV):Jc KA heap next (some r)=KA r heap next:=rfl
@[simp] theorem zoA:Jc KA heap next none=False:=rfl
@[simp] theorem zoB (r:dy):ja [r] st=wI st r:=rfl
@[simp] theorem zoC:ja [] st=some (.tuple []):=rfl
@[simp] theorem zoD (r s:dy) (l:List dy):ja (r::s::l) st=match aI (wI st) (r::s::l) with
 | some xs=>some (.tuple xs)
 | none=>none:=rfl
@[simp] theorem znl (t:Nat):wI ⟨env,heap,next⟩ (.tmp t)=za env t:=rfl
@[simp] theorem znb (t n:Nat) (ag:Bool):wI ⟨env,heap,next⟩ (.cell t ag n)=match ai (.load ag n (.t t)) (zd env) (za heap) 0 with
 | some (r,_)=>some r
 | none=>none:=rfl
@[simp] theorem FY (x:aZ):bX C dst K ⟨env,heap,next⟩ (.dh x)=z7 dst K ⟨env,heap,next⟩ (ai (.dh x) (zd env) (za heap) next):=rfl
@[simp] theorem zoE (c a b:aZ):bX C dst K ⟨env,heap,next⟩ (.pick c a b)=z7 dst K ⟨env,heap,next⟩ (ai (.pick c a b) (zd env) (za heap) next):=rfl
@[simp] theorem znm (sz:Nat) (af:List (List AV)):bX C dst K ⟨env,heap,next⟩ (.alloc sz af)=z7 dst K ⟨env,heap,next⟩ (ai (.alloc sz af) (zd env) (za heap) next):=rfl
@[simp] theorem zo8 (sz:Nat) (x:aZ):bX C dst K ⟨env,heap,next⟩ (.box sz x)=z7 dst K ⟨env,heap,next⟩ (ai (.box sz x) (zd env) (za heap) next):=rfl
@[simp] theorem znn (zero:List AV) (parts:List (Nat×Nat×aZ)):bX C dst K ⟨env,heap,next⟩ (.build zero parts)=z7 dst K ⟨env,heap,next⟩ (ai (.build zero parts) (zd env) (za heap) next):=rfl
@[simp] theorem znc (sz:Nat) (zero:List AV) (len:Nat) (parts:List (Nat×aZ)):bX C dst K ⟨env,heap,next⟩ (.cU sz zero len parts)=z7 dst K ⟨env,heap,next⟩ (ai (.cU sz zero len parts) (zd env) (za heap) next):=rfl
@[simp] theorem zoF (agg:Bool) (n:Nat) (x:aZ):bX C dst K ⟨env,heap,next⟩ (.load agg n x)=z7 dst K ⟨env,heap,next⟩ (ai (.load agg n x) (zd env) (za heap) next):=rfl
@[simp] theorem zno (n:Nat) (x v:aZ):bX C dst K ⟨env,heap,next⟩ (.store n x v)=z7 dst K ⟨env,heap,next⟩ (ai (.store n x v) (zd env) (za heap) next):=rfl
@[simp] theorem zo9 (off:Nat) (x:aZ):bX C dst K ⟨env,heap,next⟩ (.nP off x)=z7 dst K ⟨env,heap,next⟩ (ai (.nP off x) (zd env) (za heap) next):=rfl
@[simp] theorem zpa (sz:Nat) (x i:aZ):bX C dst K ⟨env,heap,next⟩ (.idx sz x i)=z7 dst K ⟨env,heap,next⟩ (ai (.idx sz x i) (zd env) (za heap) next):=rfl
@[simp] theorem zoG (len sz:Nat) (x i:aZ):bX C dst K ⟨env,heap,next⟩ (.idxa len sz x i)=z7 dst K ⟨env,heap,next⟩ (ai (.idxa len sz x i) (zd env) (za heap) next):=rfl
@[simp] theorem zpb (op:BinOp) (x y:aZ):bX C dst K ⟨env,heap,next⟩ (.bin op x y)=z7 dst K ⟨env,heap,next⟩ (ai (.bin op x y) (zd env) (za heap) next):=rfl
@[simp] theorem zpc (neg:Bool) (x y:aZ):bX C dst K ⟨env,heap,next⟩ (.oR neg x y)=z7 dst K ⟨env,heap,next⟩ (ai (.oR neg x y) (zd env) (za heap) next):=rfl
@[simp] theorem zpd (neg:Bool) (ks:List Nat) (x y:aZ):bX C dst K ⟨env,heap,next⟩ (.eqs neg ks x y)=z7 dst K ⟨env,heap,next⟩ (ai (.eqs neg ks x y) (zd env) (za heap) next):=rfl
@[simp] theorem znp (neg:Bool) (x y:aZ):bX C dst K ⟨env,heap,next⟩ (.eZ neg x y)=z7 dst K ⟨env,heap,next⟩ (ai (.eZ neg x y) (zd env) (za heap) next):=rfl
@[simp] theorem zpe (x:aZ):bX C dst K ⟨env,heap,next⟩ (.not x)=z7 dst K ⟨env,heap,next⟩ (ai (.not x) (zd env) (za heap) next):=rfl
@[simp] theorem zpf (x:aZ):bX C dst K ⟨env,heap,next⟩ (.neg x)=z7 dst K ⟨env,heap,next⟩ (ai (.neg x) (zd env) (za heap) next):=rfl
@[simp] theorem zoH (k:IntKind) (x:aZ):bX C dst K ⟨env,heap,next⟩ (.conv k x)=z7 dst K ⟨env,heap,next⟩ (ai (.conv k x) (zd env) (za heap) next):=rfl
@[simp] theorem zpg (x:aZ):bX C dst K ⟨env,heap,next⟩ (.len x)=z7 dst K ⟨env,heap,next⟩ (ai (.len x) (zd env) (za heap) next):=rfl
@[simp] theorem zoI (x:aZ):bX C dst K ⟨env,heap,next⟩ (.lens x)=z7 dst K ⟨env,heap,next⟩ (ai (.lens x) (zd env) (za heap) next):=rfl
@[simp] theorem zoJ (x:aZ):bX C dst K ⟨env,heap,next⟩ (.ir x)=z7 dst K ⟨env,heap,next⟩ (ai (.ir x) (zd env) (za heap) next):=rfl
@[simp] theorem zpS (max:Bool) (x y:aZ):bX C dst K ⟨env,heap,next⟩ (.mm max x y)=z7 dst K ⟨env,heap,next⟩ (ai (.mm max x y) (zd env) (za heap) next):=rfl
@[simp] theorem zph (sz bI:Nat) (s x:aZ):bX C dst K ⟨env,heap,next⟩ (.app sz bI s x)=z7 dst K ⟨env,heap,next⟩ (ai (.app sz bI s x) (zd env) (za heap) next):=rfl
@[simp] theorem zpi (x:aZ) (i:Nat):bX C dst K ⟨env,heap,next⟩ (.ext x i)=z7 dst K ⟨env,heap,next⟩ (ai (.ext x i) (zd env) (za heap) next):=rfl
@[simp] theorem zpj (f:Nat) (first bt:List aZ):bX C dst K ⟨env,heap,next⟩ (.pg f first bt)=z7 dst K ⟨env,heap,next⟩ (ai (.pg f first bt) (zd env) (za heap) next):=rfl
@[simp] theorem znq  : bX C dst K ⟨env,heap,next⟩ (.fc)=z7 dst K ⟨env,heap,next⟩ (ai (.fc) (zd env) (za heap) next):=rfl
@[simp] theorem zoK (str:Bool) (zero:AV) (ok:Bool) (m k:aZ):bX C dst K ⟨env,heap,next⟩ (.look str zero ok m k)=z7 dst K ⟨env,heap,next⟩ (ai (.look str zero ok m k) (zd env) (za heap) next):=rfl
@[simp] theorem zpk (str:Bool) (m k v:aZ):bX C dst K ⟨env,heap,next⟩ (.upd str m k v)=z7 dst K ⟨env,heap,next⟩ (ai (.upd str m k v) (zd env) (za heap) next):=rfl
@[simp] theorem zpl (sz bI:Nat) (zero:List AV) (n:aZ):bX C dst K ⟨env,heap,next⟩ (.mks sz bI zero n)=z7 dst K ⟨env,heap,next⟩ (ai (.mks sz bI zero n) (zd env) (za heap) next):=rfl
@[simp] theorem zpm (sz:Nat) (x:aZ) (lo hi:Option aZ):bX C dst K ⟨env,heap,next⟩ (.slc sz x lo hi)=z7 dst K ⟨env,heap,next⟩ (ai (.slc sz x lo hi) (zd env) (za heap) next):=rfl
@[simp] theorem zoL (neg:Bool) (x y:aZ):bX C dst K ⟨env,heap,next⟩ (.eqnm neg x y)=z7 dst K ⟨env,heap,next⟩ (ai (.eqnm neg x y) (zd env) (za heap) next):=rfl
@[simp] theorem zpn (ag:Bool) (off n:Nat) (x:aZ):bX C dst K ⟨env,heap,next⟩ (.cut ag off n x)=z7 dst K ⟨env,heap,next⟩ (ai (.cut ag off n x) (zd env) (za heap) next):=rfl
@[simp] theorem zpo (x:aZ):bX C dst K ⟨env,heap,next⟩ (.oS x)=z7 dst K ⟨env,heap,next⟩ (ai (.oS x) (zd env) (za heap) next):=rfl
@[simp] theorem zoM (sz:Nat) (d x:aZ):bX C dst K ⟨env,heap,next⟩ (.copy sz d x)=z7 dst K ⟨env,heap,next⟩ (ai (.copy sz d x) (zd env) (za heap) next):=rfl
@[simp] theorem zpp (len sz:Nat) (x i:aZ):bX C dst K ⟨env,heap,next⟩ (.ixa len sz x i)=z7 dst K ⟨env,heap,next⟩ (ai (.ixa len sz x i) (zd env) (za heap) next):=rfl
end
section
variable {C:bz} {nt:Fr} {env:List (Nat×AV)} {heap:List (Nat×aD)} {next:Nat} {dst:Option Nat} {K:St→Prop} {KD:List Nat→AV→List (Nat×aD)→Prop} {st:St}
@[simp] theorem zpT (ord:List Nat) (j:Nat) (W R:List (Nat×Nat)):lD C ord K [] j W R st=K st:=rfl
@[simp] theorem FZ (ord:List Nat) (it:aM) (r:List aM) (j:Nat) (W R:List (Nat×Nat)):lD C ord K (it::r) j W R st=rB C it (oq ord j W R it.dst st (lD C ord K r)) st:=rfl
@[simp] theorem zpU:rC C K [] st=K st:=rfl
@[simp] theorem zpq (it:aM) (r:List aM):rC C K (it::r) st=rB C it (BP it.dst st (rC C K r)) st:=rfl
@[simp] theorem F0 (op:cO):rB C ⟨dst,op,none⟩ KD st=dW C KD st op:=rfl
@[simp] theorem zpr (op:cO) (t:Nat) (want:Bool):rB C ⟨dst,op,some (t,want)⟩ KD st=sG C op KD st want ((za st.env t).getD .top):=rfl
@[simp] theorem zoN (op:cO) (want:Bool):sG C op KD st want .undef=KD [] .undef []:=rfl
@[simp] theorem zps (op:cO) (b:Bool):sG C op KD st true (.ap (.bool b))=dG C op KD st b:=by simp [sG]
@[simp] theorem zoO (op:cO) (b:Bool):sG C op KD st false (.ap (.bool b))=dG C op KD st (!b):=by cases b<;>rfl
@[simp] theorem zpV (op:cO):dG C op KD st true=dW C KD st op:=rfl
@[simp] theorem zpt (op:cO):dG C op KD st false=KD [] .undef []:=rfl
@[simp] theorem zoP (rd:List Nat) (r:AV) (aN:List (Nat×aD)):qr KD rd (some (r,aN))=KD rd r aN:=rfl
@[simp] theorem zoQ (rd:List Nat):qr KD rd none=False:=rfl
@[simp] theorem zpu (ord:List Nat) (j:Nat) (W R:List (Nat×Nat)) (nx:Nat→List (Nat×Nat)→List (Nat×Nat)→St→Prop) (rd:List Nat) (r:AV) (aN:List (Nat×aD)) :
 oq ord j W R dst st nx rd r aN=(xh ord j W R (z6 aN) rd=true∧nx (j+1) (qY j (z6 aN) W) (qY j rd R) (st.after dst r aN)):=rfl
@[simp] theorem zoR (nx:St→Prop) (rd:List Nat) (r:AV):BP dst st nx rd r []=nx (st.after dst r []):=by simp [BP]
@[simp] theorem zpv (f:aZ) (args:List aZ):dW C KD ⟨env,heap,next⟩ (.call f args)=BQ C KD heap (args.map (zd env)) (zd env f):=rfl
@[simp] theorem znr (args:List AV) (f:Nat) (first bt:List AV):BQ C KD heap args (.func f first bt)=gj C f (first++args++bt) heap KD:=rfl
@[simp] theorem zpW (x:aZ):dW C KD ⟨env,heap,next⟩ (.dh x)=qr KD (zj (.dh x) (zd env)) (ai (.dh x) (zd env) (za heap) next):=rfl
@[simp] theorem zpw (c a b:aZ):dW C KD ⟨env,heap,next⟩ (.pick c a b)=qr KD (zj (.pick c a b) (zd env)) (ai (.pick c a b) (zd env) (za heap) next):=rfl
@[simp] theorem zoS (sz:Nat) (af:List (List AV)):dW C KD ⟨env,heap,next⟩ (.alloc sz af)=qr KD (zj (.alloc sz af) (zd env)) (ai (.alloc sz af) (zd env) (za heap) next):=rfl
@[simp] theorem zpX (sz:Nat) (x:aZ):dW C KD ⟨env,heap,next⟩ (.box sz x)=qr KD (zj (.box sz x) (zd env)) (ai (.box sz x) (zd env) (za heap) next):=rfl
@[simp] theorem zoT (zero:List AV) (parts:List (Nat×Nat×aZ)):dW C KD ⟨env,heap,next⟩ (.build zero parts)=qr KD (zj (.build zero parts) (zd env)) (ai (.build zero parts) (zd env) (za heap) next):=rfl
@[simp] theorem zns (sz:Nat) (zero:List AV) (len:Nat) (parts:List (Nat×aZ)):dW C KD ⟨env,heap,next⟩ (.cU sz zero len parts)=qr KD (zj (.cU sz zero len parts) (zd env)) (ai (.cU sz zero len parts) (zd env) (za heap) next):=rfl
@[simp] theorem zpx (agg:Bool) (n:Nat) (x:aZ):dW C KD ⟨env,heap,next⟩ (.load agg n x)=qr KD (zj (.load agg n x) (zd env)) (ai (.load agg n x) (zd env) (za heap) next):=rfl
@[simp] theorem zoU (n:Nat) (x v:aZ):dW C KD ⟨env,heap,next⟩ (.store n x v)=qr KD (zj (.store n x v) (zd env)) (ai (.store n x v) (zd env) (za heap) next):=rfl
@[simp] theorem zpY (off:Nat) (x:aZ):dW C KD ⟨env,heap,next⟩ (.nP off x)=qr KD (zj (.nP off x) (zd env)) (ai (.nP off x) (zd env) (za heap) next):=rfl
@[simp] theorem zpZ (sz:Nat) (x i:aZ):dW C KD ⟨env,heap,next⟩ (.idx sz x i)=qr KD (zj (.idx sz x i) (zd env)) (ai (.idx sz x i) (zd env) (za heap) next):=rfl
@[simp] theorem zpy (len sz:Nat) (x i:aZ):dW C KD ⟨env,heap,next⟩ (.idxa len sz x i)=qr KD (zj (.idxa len sz x i) (zd env)) (ai (.idxa len sz x i) (zd env) (za heap) next):=rfl
@[simp] theorem zp0 (op:BinOp) (x y:aZ):dW C KD ⟨env,heap,next⟩ (.bin op x y)=qr KD (zj (.bin op x y) (zd env)) (ai (.bin op x y) (zd env) (za heap) next):=rfl
@[simp] theorem zp1 (neg:Bool) (x y:aZ):dW C KD ⟨env,heap,next⟩ (.oR neg x y)=qr KD (zj (.oR neg x y) (zd env)) (ai (.oR neg x y) (zd env) (za heap) next):=rfl
@[simp] theorem zp2 (neg:Bool) (ks:List Nat) (x y:aZ):dW C KD ⟨env,heap,next⟩ (.eqs neg ks x y)=qr KD (zj (.eqs neg ks x y) (zd env)) (ai (.eqs neg ks x y) (zd env) (za heap) next):=rfl
@[simp] theorem zoV (neg:Bool) (x y:aZ):dW C KD ⟨env,heap,next⟩ (.eZ neg x y)=qr KD (zj (.eZ neg x y) (zd env)) (ai (.eZ neg x y) (zd env) (za heap) next):=rfl
@[simp] theorem zp3 (x:aZ):dW C KD ⟨env,heap,next⟩ (.not x)=qr KD (zj (.not x) (zd env)) (ai (.not x) (zd env) (za heap) next):=rfl
@[simp] theorem zp4 (x:aZ):dW C KD ⟨env,heap,next⟩ (.neg x)=qr KD (zj (.neg x) (zd env)) (ai (.neg x) (zd env) (za heap) next):=rfl
@[simp] theorem zpz (k:IntKind) (x:aZ):dW C KD ⟨env,heap,next⟩ (.conv k x)=qr KD (zj (.conv k x) (zd env)) (ai (.conv k x) (zd env) (za heap) next):=rfl
@[simp] theorem zp5 (x:aZ):dW C KD ⟨env,heap,next⟩ (.len x)=qr KD (zj (.len x) (zd env)) (ai (.len x) (zd env) (za heap) next):=rfl
@[simp] theorem zpA (x:aZ):dW C KD ⟨env,heap,next⟩ (.lens x)=qr KD (zj (.lens x) (zd env)) (ai (.lens x) (zd env) (za heap) next):=rfl
@[simp] theorem zpB (x:aZ):dW C KD ⟨env,heap,next⟩ (.ir x)=qr KD (zj (.ir x) (zd env)) (ai (.ir x) (zd env) (za heap) next):=rfl
@[simp] theorem zqf (max:Bool) (x y:aZ):dW C KD ⟨env,heap,next⟩ (.mm max x y)=qr KD (zj (.mm max x y) (zd env)) (ai (.mm max x y) (zd env) (za heap) next):=rfl
@[simp] theorem zp6 (sz bI:Nat) (s x:aZ):dW C KD ⟨env,heap,next⟩ (.app sz bI s x)=qr KD (zj (.app sz bI s x) (zd env)) (ai (.app sz bI s x) (zd env) (za heap) next):=rfl
@[simp] theorem zp7 (x:aZ) (i:Nat):dW C KD ⟨env,heap,next⟩ (.ext x i)=qr KD (zj (.ext x i) (zd env)) (ai (.ext x i) (zd env) (za heap) next):=rfl
@[simp] theorem zp8 (f:Nat) (first bt:List aZ):dW C KD ⟨env,heap,next⟩ (.pg f first bt)=qr KD (zj (.pg f first bt) (zd env)) (ai (.pg f first bt) (zd env) (za heap) next):=rfl
@[simp] theorem zoW  : dW C KD ⟨env,heap,next⟩ (.fc)=qr KD (zj (.fc) (zd env)) (ai (.fc) (zd env) (za heap) next):=rfl
@[simp] theorem zpC (str:Bool) (zero:AV) (ok:Bool) (m k:aZ):dW C KD ⟨env,heap,next⟩ (.look str zero ok m k)=qr KD (zj (.look str zero ok m k) (zd env)) (ai (.look str zero ok m k) (zd env) (za heap) next):=rfl
@[simp] theorem zp9 (str:Bool) (m k v:aZ):dW C KD ⟨env,heap,next⟩ (.upd str m k v)=qr KD (zj (.upd str m k v) (zd env)) (ai (.upd str m k v) (zd env) (za heap) next):=rfl
@[simp] theorem zqa (sz bI:Nat) (zero:List AV) (n:aZ):dW C KD ⟨env,heap,next⟩ (.mks sz bI zero n)=qr KD (zj (.mks sz bI zero n) (zd env)) (ai (.mks sz bI zero n) (zd env) (za heap) next):=rfl
@[simp] theorem zqb (sz:Nat) (x:aZ) (lo hi:Option aZ):dW C KD ⟨env,heap,next⟩ (.slc sz x lo hi)=qr KD (zj (.slc sz x lo hi) (zd env)) (ai (.slc sz x lo hi) (zd env) (za heap) next):=rfl
@[simp] theorem zpD (neg:Bool) (x y:aZ):dW C KD ⟨env,heap,next⟩ (.eqnm neg x y)=qr KD (zj (.eqnm neg x y) (zd env)) (ai (.eqnm neg x y) (zd env) (za heap) next):=rfl
@[simp] theorem zqc (ag:Bool) (off n:Nat) (x:aZ):dW C KD ⟨env,heap,next⟩ (.cut ag off n x)=qr KD (zj (.cut ag off n x) (zd env)) (ai (.cut ag off n x) (zd env) (za heap) next):=rfl
@[simp] theorem zqd (x:aZ):dW C KD ⟨env,heap,next⟩ (.oS x)=qr KD (zj (.oS x) (zd env)) (ai (.oS x) (zd env) (za heap) next):=rfl
@[simp] theorem zpE (sz:Nat) (d x:aZ):dW C KD ⟨env,heap,next⟩ (.copy sz d x)=qr KD (zj (.copy sz d x) (zd env)) (ai (.copy sz d x) (zd env) (za heap) next):=rfl
@[simp] theorem zqe (len sz:Nat) (x i:aZ):dW C KD ⟨env,heap,next⟩ (.ixa len sz x i)=qr KD (zj (.ixa len sz x i) (zd env)) (ai (.ixa len sz x i) (zd env) (za heap) next):=rfl
end
end
section
section
variable {C:bz} {nt:Fr} {x:cA} {K:Exit→St→Prop} {st:St}
end
@[simp] theorem zjo {α:Type} {p:α→Prop}:(∀ x∈([]:List α),p x)=True:=by simp
theorem qf {x:Int} (h1 : -9223372036854775808≤x) (h2:x < 9223372036854775808):IntKind.i64.wrap x=x:=by
 simp [IntKind.wrap,IntKind.bits,IntKind.signed,Int.bmod_def]
 omega
theorem N6 {x:Int} (h1:0≤x) (h2:x < 18446744073709551616):IntKind.u64.wrap x=x:=by
 simp [IntKind.wrap,IntKind.bits,IntKind.signed]
 omega
end
section
def VU {α:Type}:List (Nat×α)→List (Nat×α)→List (Nat×α)
 | [],l=>l
 | (k,v)::r,l=>VU r (zk l k v)
@[simp] theorem znt {α:Type} (l:List (Nat×α)):VU [] l=l:=rfl
@[simp] theorem znd {α:Type} (k:Nat) (v:α) (r l:List (Nat×α)):VU ((k,v)::r) l=VU r (zk l k v):=rfl
section
variable {C:bz} {nt:Fr} {x:cA} {K:Exit→St→Prop}
end
end
section
theorem xY {α β:Type} {x:Option α} {f:α→Option β} {r:β} (h:x.bind f=some r):∃ a,x=some a∧f a=some r:=Option.bind_eq_some_iff.1 h
def ze {α:Type} (l:List α) (n:Int):Option α:=if 0≤n then l[n.toNat]? else none
theorem Xa {α:Type} {l:List α} {n:Int} {e:α} (h:ze l n=some e):0≤n∧l[n.toNat]?=some e∧n.toNat < l.length∧n < l.length∧∃ h:n.toNat < l.length,l[n.toNat]=e:=by
 unfold ze at h;split at h
 ·obtain ⟨h1,h2⟩:=ug.1 h
  exact ⟨‹_›,h,h1,by omega,h1,h2⟩
 ·cases h
theorem N7 {α:Type} {b:Bool} {x y:Option α} {r:α} (h:(bif b then x else y)=some r):(b=true∧x=some r)∨(b=false∧y=some r):=by
 cases b
 ·exact .inr ⟨rfl,h⟩
 ·exact .inl ⟨rfl,h⟩
theorem yn {C:bz} {nt:Fr} {o:List Nat} {items:List aM} {ks:Option (List Nat)} {K:Exit→St→Prop} {st:St} (h:mj C items (Zw ks K) st):cB C nt (.region false o items ks) K st:=
 VM (Zc C items _ st h)
theorem F4 {C:bz} {nt:Fr} {o:List Nat} {items:List aM} {ks:Option (List Nat)} {K:Exit→St→Prop} {st:St} (h:tP C (X3 items) o items (Zw ks K) st):cB C nt (.region true o items ks) K st:=
 vp h
theorem F5 {C:bz} {nt:Fr} {c:aZ} {x y:cA} {K:Exit→St→Prop} {st:St} (b:Bool) (hc:zd st.env c=.ap (.bool b)) (h1:b=true→cB C nt x K st) (h2:b=false→cB C nt y K st):cB C nt (.cond c x y) K st:=
 xw b hc h1 h2
theorem F6 {id:Nat} {K:Exit→St→Prop} {st:St} (h:K .normal st):xS id K (.exit id) st:=by
 simp only [N5,if_true];exact h
def bF {σ ρ:Type} (f:Nat→σ→Option (σ ⊕ ρ)):Nat→Nat→σ→Option (σ ⊕ ρ)
 | _,0,s=>some (.inl s)
 | i,k+1,s=>match f i s with
  | none=>none
  | some (.inr r)=>some (.inr r)
  | some (.inl s')=>bF f (i+1) k s'
def aE {σ ρ:Type} (n:Int) (f:Nat→σ→Option (σ ⊕ ρ)) (s:σ):Option (σ ⊕ ρ):=bif uE n.toNat 4611686018427387904 then bF f 0 n.toNat s else none
theorem Zx {σ ρ:Type} {n:Int} {f:Nat→σ→Option (σ ⊕ ρ)} {s:σ} (hn:n < 4611686018427387904):aE n f s=bF f 0 n.toNat s:=by
 have:uE n.toNat 4611686018427387904=true:=by simp only [Nat.blt_eq];omega
 unfold aE;rw [this];rfl
theorem Xb {σ ρ:Type} {n:Int} {f:Nat→σ→Option (σ ⊕ ρ)} {s:σ} {o:σ ⊕ ρ} (h:aE n f s=some o):n < 4611686018427387904∧bF f 0 n.toNat s=some o:=by
 unfold aE at h
 cases hb:uE n.toNat 4611686018427387904 with
 | true=>rw [hb] at h;simp only [Nat.blt_eq] at hb;exact ⟨by omega,h⟩
 | false=>rw [hb] at h;cases h
def BR {σ ρ:Type} (W:σ→St) (K:Exit→St→Prop) (out:σ ⊕ ρ) (o:σ ⊕ ρ):Exit→St→Prop
 | .normal,st=>∃ s',o=.inl s'∧bO st (W s')
 | e,st=>∃ y,o=.inr y∧(out=.inr y→K e st)
theorem N8 {C:bz} {nt:Fr} {x:cA} {K:Exit→St→Prop} {st:St} {σ ρ:Type} {n:Int} {f:Nat→σ→Option (σ ⊕ ρ)} {s0:σ} {out:σ ⊕ ρ} (hl:aE n f s0=some out)
  (E:Nat→σ→List (Nat×AV)) (H:Nat→σ→List (Nat×aD)) (h0:bO st ⟨E 0 s0,H 0 s0,st.next⟩)
  (body:∀ (i:Nat) (s:σ) (o:σ ⊕ ρ),(i:Int) < n→IntKind.i64.wrap ((i:Int)+1)=(i:Int)+1→f i s=some o→cB C nt x (BR (fun s=>⟨E (i+1) s,H (i+1) s,st.next⟩) K out o) ⟨E i s,H i s,st.next⟩)
  (last:∀ (m:Nat) (s:σ),¬ (m:Int) < n→out=.inl s→cB C nt x (vM (fun _=>False) K) ⟨E m s,H m s,st.next⟩):cB C nt (.loop x) K st:=by
 obtain ⟨hn,hl⟩:=Xb hl
 refine Q7 (ι:={p:Nat×σ // p.1≤n.toNat∧bF f p.1 (n.toNat - p.1) p.2=some out}) (fun p=>⟨E p.1.1 p.1.2,H p.1.1 p.1.2,st.next⟩) (fun p=>n.toNat - p.1.1) ⟨(0,s0),Nat.zero_le _,hl⟩ (fun _=>uj _) h0 (uj _) ?_
 rintro ⟨⟨i,s⟩,hi,hf⟩
 simp only at hi hf
 rcases ui i n.toNat with h | h
 ·obtain ⟨k,hk⟩:∃ k,n.toNat - i=k+1:=⟨n.toNat - i - 1,by omega⟩
  rw [hk] at hf
  simp only [bF] at hf
  split at hf
  ·cases hf
  ·rename_i r hr
   cases hf
   refine qI ?_ (body i s _ (by omega) (qf (by omega) (by omega)) hr)
   intro e aX hK
   cases e with
   | normal=>obtain ⟨s',h1,_⟩:=hK;cases h1
   | _=>obtain ⟨y,h1,h2⟩:=hK;cases h1;exact h2 rfl
  ·rename_i s' hr
   refine qI ?_ (body i s _ (by omega) (qf (by omega) (by omega)) hr)
   intro e aX hK
   cases e with
   | normal=>
    obtain ⟨s'',h1,h2⟩:=hK
    cases h1
    exact ⟨⟨(i+1,s'),h,by simp only;rw [show n.toNat - (i+1)=k by omega];exact hf⟩,by simp only;omega,h2⟩
   | _=>obtain ⟨y,h1,h2⟩:=hK;cases h1
 ·obtain rfl:i=n.toNat:=by omega
  simp only [Nat.sub_self,bF,Option.some.injEq] at hf
  refine qI ?_ (last n.toNat s (by omega) hf.symm)
  intro e aX hK
  cases e with
  | normal=>exact hK.elim
  | _=>exact hK
def cg {σ ρ:Type} (f:σ→Option (σ ⊕ ρ)):Nat→σ→Option ρ
 | 0,_=>none
 | k+1,s=>match f s with
  | none=>none
  | some (.inr r)=>some r
  | some (.inl s')=>cg f k s'
theorem Jd {σ ρ:Type} {f:σ→Option (σ ⊕ ρ)}:∀ {k:Nat} {s:σ} {r:ρ},cg f k s=some r→∀ {k':Nat},k≤k'→cg f k' s=some r
 | 0,_,_,h,_,_=>by cases h
 | k+1,s,r,h,k',hk=>by
  obtain ⟨m,rfl⟩:∃ m,k'=m+1:=⟨k' - 1,by omega⟩
  simp only [cg] at h ⊢
  split at h
  ·cases h
  ·exact h
  ·exact Jd h (by omega)
open Classical in
noncomputable def iter {σ ρ:Type} (f:σ→Option (σ ⊕ ρ)) (s:σ):Option ρ:=if h:∃ r,∃ k,cg f k s=some r then some h.choose else none
theorem vq {σ ρ:Type} {f:σ→Option (σ ⊕ ρ)} {s:σ} {r:ρ}:iter f s=some r↔∃ k,cg f k s=some r:=by
 unfold iter
 split
 ·rename_i h
  obtain ⟨k,hk⟩:=h.choose_spec
  simp only [Option.some.injEq]
  constructor
  ·intro e;exact ⟨k,by rw [←e];exact hk⟩
  ·rintro ⟨k',hk'⟩
   have h1:=Jd hk (uu k k')
   have h2:=Jd hk' (ut k k')
   rw [h1] at h2;exact Option.some.inj h2
 ·rename_i h
  constructor
  ·intro e;cases e
  ·rintro ⟨k,hk⟩;exact absurd ⟨r,k,hk⟩ h
theorem N9 {σ ρ:Type} (f:σ→Option (σ ⊕ ρ)) (s:σ):iter f s=match f s with
  | none=>none
  | some (.inr r)=>some r
  | some (.inl s')=>iter f s':=by
 apply Option.ext
 intro r
 rw [vq]
 constructor
 ·rintro ⟨k,hk⟩
  cases k with
  | zero=>cases hk
  | succ k=>
   simp only [cg] at hk
   split at hk
   ·cases hk
   ·exact hk
   ·exact vq.2 ⟨k,hk⟩
 ·intro h
  split at h
  ·cases h
  ·rename_i e;exact ⟨1,by simp only [cg,e];exact h⟩
  ·rename_i e
   obtain ⟨k,hk⟩:=vq.1 h
   exact ⟨k+1,by simp only [cg,e];exact hk⟩
theorem Oa {C:bz} {nt:Fr} {x:cA} {K:Exit→St→Prop} {st:St} {σ ρ:Type} {f:σ→Option (σ ⊕ ρ)} {s0:σ} {out:ρ} (hl:iter f s0=some out)
  (E:σ→List (Nat×AV)) (H:σ→List (Nat×aD)) (h0:bO st ⟨E s0,H s0,st.next⟩)
  (body:∀ (s:σ) (o:σ ⊕ ρ),f s=some o→cB C nt x (BR (fun s=>⟨E s,H s,st.next⟩) K (.inr out) o) ⟨E s,H s,st.next⟩):cB C nt (.loop x) K st:=by
 obtain ⟨k,hk⟩:=vq.1 hl
 refine Q7 (ι:={p:Nat×σ // cg f p.1 p.2=some out}) (fun p=>⟨E p.1.2,H p.1.2,st.next⟩) (fun p=>p.1.1) ⟨(k,s0),hk⟩ (fun _=>uj _) h0 (uj _) ?_
 rintro ⟨⟨i,s⟩,hf⟩
 simp only at hf
 cases i with
 | zero=>cases hf
 | succ i=>
  simp only [cg] at hf
  split at hf
  ·cases hf
  ·rename_i r hr
   cases hf
   refine qI ?_ (body s _ hr)
   intro e aX hK
   cases e with
   | normal=>obtain ⟨s',h1,_⟩:=hK;cases h1
   | _=>obtain ⟨y,h1,h2⟩:=hK;cases h1;exact h2 rfl
  ·rename_i s' hr
   refine qI ?_ (body s _ hr)
   intro e aX hK
   cases e with
   | normal=>obtain ⟨s'',h1,h2⟩:=hK;cases h1;exact ⟨⟨(i,s'),hf⟩,by simp only;omega,h2⟩
   | _=>obtain ⟨y,h1,h2⟩:=hK;cases h1
theorem aJ.start {C:Ctx} {f:Nat} {F:dw} (hF:qn C f=some F.erase) {args:List IV} {r:IV} (d:Nat) (hn:args.length≤F.nt)
 (h:∀ B,cB C.plain ⟨F.nt,B⟩ F.body (kR F.results (J9 d r)) {env:=jn 0 (args.map .ap),heap:=[],next:=0}):aJ C f args r:=aJ.of (d:=d) (bH.enter hF (by simpa using hn) (fun B=>qI (fun e st hk=>by
  have key:∀ {o:Option AV},Jc (J9 d r) st.heap st.next o→∃ x,o=some x∧J9 d r x st.heap st.next:=fun {o} ho=>by
   cases o with
   | none=>exact ho.elim
   | some x=>exact ⟨x,rfl,ho⟩
  cases e with
  | ret=>exact ⟨.inl rfl,key hk⟩
  | normal=>exact ⟨.inr rfl,key hk⟩
  | _=>exact hk.elim) (h B)))
end
section
def zc (n:Int):List IV:=[.int .i64 n]
def YY (k:IntKind) (n:Int):List IV:=[.int k n]
def zi (b:Bool):List IV:=[.bool b]
def Ob (s:ByteArray):List IV:=[.str s]
def zI {α:Type} (f:α→List IV) (l:List α):List IV:=[.slice (l.map f)]
def zu (r:List IV):List AV:=r.map .ap
abbrev vI (n:Int):AV:=.ap (.int .i64 n)
abbrev vB (b:Bool):AV:=.ap (.bool b)
theorem F7 {α:Type} {b:Bool} {x y r:α} (g:b=true) (h:(bif b then x else y)=r):x=r:=by subst g;exact h
theorem F8 {α:Type} {b:Bool} {x y r:α} (g:b=false) (h:(bif b then x else y)=r):y=r:=by subst g;exact h
theorem Oc {C:bz} {nt:Fr} {c:aZ} {x y:cA} {K:Exit→St→Prop} {st:St} (hc:zd st.env c=.ap (.bool true)) (h1:cB C nt x K st):cB C nt (.cond c x y) K st:=
 xw true hc (fun _=>h1) (fun h=>by cases h)
theorem Od {C:bz} {nt:Fr} {c:aZ} {x y:cA} {K:Exit→St→Prop} {st:St} (hc:zd st.env c=.ap (.bool false)) (h1:cB C nt y K st):cB C nt (.cond c x y) K st:=
 xw false hc (fun h=>by cases h) (fun _=>h1)
theorem F9 {n:St→Prop} {K:Exit→St→Prop} {id:Nat} {st:St} (h:K (.exit id) st):vM n K (.exit id) st:=h
theorem qA {n:St→Prop} {K:Exit→St→Prop} {st:St} (h:n st):vM n K .normal st:=h
theorem De {id:Nat} {K:Exit→St→Prop} {st:St} (h:K .normal st):xS id K .normal st:=h
def W4 {α:Type} (l:List α) (a b:Int):Option (List α):=if 0≤a∧a≤b∧b≤(l.length:Int) then some ((l.take b.toNat).drop a.toNat) else none
theorem Oe {α:Type} {l:List α} {a b:Int} {e:List α} (h:W4 l a b=some e):0≤a∧a≤b∧b≤(l.length:Int)∧(l.take b.toNat).drop a.toNat=e:=by
 unfold W4 at h;split at h
 ·rename_i hh;exact ⟨hh.1,hh.2.1,hh.2.2,Option.some.inj h⟩
 ·cases h
def Je (k:IntKind) (a b:Int):Option Int:=if b=0 then none else some (a.tmod b)
theorem Of {k:IntKind} {a b e:Int} (h:Je k a b=some e):¬ b=0∧a.tmod b=e:=by
 unfold Je at h;split at h
 ·cases h
 ·exact ⟨‹_›,Option.some.inj h⟩
attribute [simp] bne ai cellsOf yC wv X3 zC xb qX vk j7 ZN jm qx Qw xI jP xh qY z6 zj wd qc qV ed Nat.testBit jp zX xx zP zY
attribute [simp] zc YY zi Ob zI zu
end
section
def jq (φ:Nat→Nat):AV→AV
 | .aS i af=>.aS (φ i) af
 | .ptr i r o=>.ptr (φ i) r o
 | .Zaj i o l=>.Zaj (φ i) o l
 | .map i=>.map (φ i)
 | .eH l i=>.eH l (φ i)
 | x=>x
def Qr (φ:Nat→Nat):AV→AV
 | .func f a c=>.func f (a.map (jq φ)) (c.map (jq φ))
 | .agg cs=>.agg (cs.map (jq φ))
 | .tuple cs=>.tuple (cs.map (jq φ))
 | x=>jq φ x
def vi (φ:Nat→Nat):AV→AV
 | .tuple cs=>.tuple (cs.map (Qr φ))
 | x=>Qr φ x
def yI (φ:Nat→Nat) (row:List AV):List AV:=row.map (vi φ)
def Ga (φ:Nat→Nat) (e:IV×AV):IV×AV:=(e.1,vi φ e.2)
def qd (φ:Nat→Nat):aD→aD
 | .af sz af=>.af sz (af.map (yI φ))
 | .aU sz l=>.aU sz l
 | .map es=>.map (es.map (Ga φ))
 | .dead=>.dead
 | .lp l R s pe=>.lp l R s pe
def fV (φ:Nat→Nat):List (Nat×aD)→List (Nat×aD)
 | []=>[]
 | (k,o)::r=>(φ k,qd φ o)::fV φ r
def AM (φ:Nat→Nat) (l:List AV):List AV:=l.map (vi φ)
def Df (C:Ctx) (f:Nat) (args:List AV) (heap:List (Nat×aD)) (next:Nat) (r:AV) (heap':List (Nat×aD)) (next':Nat):Prop:=
 bH C f args heap next fun x h n=>x=r∧h=heap'∧n=next'
section
variable {C:Ctx} {g g':Gh} {h h' h0:Nat→Option aD} {N N' N0:Nat→Prop} {w w':World} {φ:Nat→Nat}
structure Ren (φ:Nat→Nat) (N0:Nat→Prop) (g0:Gh) (h0:Nat→Option aD) (g:Gh) (h:Nat→Option aD):Prop where
 eu:∀ i,N0 i→g0.ρ i=g.ρ (φ i)
 zed:g0.Z=g.Z
theorem yX {g0:Gh} {m:Nat} (hr:∀ i,i < m→g0.ρ i=g.ρ (φ i)) (hz:g0.Z=g.Z) (hh:∀ i o,h0 i=some o→h (φ i)=some (qd φ o)) {x:AV} {v:Value} (hb:zP m x=true) (hv:RV C g h N w (jq φ x) v):RV C g0 h0 (· < m) w x v:=by
 cases x with
 | top=>exact .top v
 | undef=>simp only [jq] at hv;cases hv;exact .undef
 | ap y=>simp only [jq] at hv;cases hv with | ap _ _ hr'=>exact .ap _ _ (by rw [hz];exact hr')
 | nil=>simp only [jq] at hv;cases hv;exact .nil
 | cr=>simp only [jq] at hv;cases hv with | cr a cap=>exact .cr a cap
 | eH l id=>
  simp only [jq] at hv
  have hid:id < m:=by simpa [zP] using hb
  cases hv with
  | eH _ _ _ hp=>exact .eH l id hid fun R s pe h2=>by rw [hr id hid];exact hp R s pe (by rw [hh id _ h2];rfl)
 | aS id af=>
  simp only [jq] at hv
  have hid:id < m:=by simpa [zP] using hb
  cases hv with
  | aS _ _ _ hr' _ ht=>
   refine .aS id af v (by rw [hz];exact hr') hid fun sz len h1 => ?_
   obtain ⟨a1,a2,a3⟩:=ht sz len (by rw [hh id _ h1];rfl)
   refine ⟨a1,a2,fun e => ?_⟩
   rcases a3 e with ⟨b1,b2⟩ | ⟨b,cap,c,e',b1,b2,b3,b4⟩
   ·exact .inl ⟨by rw [hr id hid];exact b1,b2⟩
   ·exact .inr ⟨b,cap,c,e',by rw [hr id hid];exact b1,b2,b3,b4⟩
 | cE cells=>
  simp only [jq] at hv
  cases hv with
  | cE _ b off cv gL hc hr'=>exact .cE cells b off cv (by rw [hz];exact gL) hc (by rw [hz];exact hr')
 | ptr id row off=>
  simp only [jq] at hv
  have hid:id < m:=by simpa [zP] using hb
  cases hv with
  | ptr _ _ _ _ _ h1 hp=>
   refine .ptr id row off v hid h1 fun sz af h2 => ?_
   obtain ⟨b,b1,b2⟩:=hp sz _ (by rw [hh id _ h2];rfl)
   exact ⟨b,by rw [hr id hid];exact b1,b2⟩
 | Zaj id off len=>
  simp only [jq] at hv
  have hid:id < m:=by simpa [zP] using hb
  cases hv with
  | Zaj _ _ _ _ _ h1 hp=>
   refine .Zaj id off len v hid h1 fun sz af h2 => ?_
   obtain ⟨b1,b2⟩:=hp sz _ (by rw [hh id _ h2];rfl)
   simp only [List.length_map] at b1
   refine ⟨b1,?_⟩
   rcases b2 with ⟨c1,c2,c3⟩ | ⟨b,cap,c,e,c1,c2,c3,c4,c5⟩
   ·exact .inl ⟨by rw [hr id hid];exact c1,by simpa using c2,c3⟩
   ·exact .inr ⟨b,cap,c,e,by rw [hr id hid];exact c1,c2,c3,c4,c5⟩
 | map id=>
  simp only [jq] at hv
  have hid:id < m:=by simpa [zP] using hb
  cases hv with
  | map _ _ _ h1 hp=>
   refine .map id v hid h1 fun es h2 => ?_
   obtain ⟨b,b1,b2⟩:=hp _ (by rw [hh id _ h2];rfl)
   exact ⟨b,by rw [hr id hid];exact b1,b2⟩
 | func=>cases hb
 | agg=>cases hb
 | tuple=>cases hb
theorem qZ {g0:Gh} {m:Nat} (hr:∀ i,i < m→g0.ρ i=g.ρ (φ i)) (hz:g0.Z=g.Z) (hh:∀ i o,h0 i=some o→h (φ i)=some (qd φ o)) {x:AV} {v:Value} (hb:xx m x=true) (hv:RV C g h N w (Qr φ x) v):RV C g0 h0 (· < m) w x v:=by
 cases x with
 | func f a c=>
  simp only [xx,ul,ud] at hb
  simp only [Qr] at hv
  cases hv with
  | func _ _ _ vf vc hlf hlc hf hc=>
   refine .func f a c vf vc (by simpa using hlf) (by simpa using hlc) (fun i y u h1 h2 => ?_) (fun i y u h1 h2 => ?_)
   ·exact yX hr hz hh (hb.1 y (ua h1)) (hf i _ u (by rw [ub,h1];rfl) h2)
   ·exact yX hr hz hh (hb.2 y (ua h1)) (hc i _ u (by rw [ub,h1];rfl) h2)
 | agg cs=>
  simp only [xx,ud] at hb
  simp only [Qr] at hv
  cases hv with
  | agg _ vs hl h1 hr'=>
   exact .agg cs vs (by simpa using hl) h1 fun i y u e1 e2=>yX hr hz hh (hb y (ua e1)) (hr' i _ u (by rw [ub,e1];rfl) e2)
 | tuple cs=>
  simp only [xx,ud] at hb
  simp only [Qr] at hv
  cases hv with
  | tuple _ vs hl hr'=>
   exact .tuple cs vs (by simpa using hl) fun i y u e1 e2=>yX hr hz hh (hb y (ua e1)) (hr' i _ u (by rw [ub,e1];rfl) e2)
 | _=>exact yX hr hz hh hb hv
theorem YZ {g0:Gh} {m:Nat} (hr:∀ i,i < m→g0.ρ i=g.ρ (φ i)) (hz:g0.Z=g.Z) (hh:∀ i o,h0 i=some o→h (φ i)=some (qd φ o)) {x:AV} {v:Value} (hb:zX m x=true) (hv:RV C g h N w (vi φ x) v):RV C g0 h0 (· < m) w x v:=by
 cases x with
 | tuple cs=>
  simp only [zX,ud] at hb
  simp only [vi] at hv
  cases hv with
  | tuple _ vs hl hr'=>
   exact .tuple cs vs (by simpa using hl) fun i y u e1 e2=>qZ hr hz hh (hb y (ua e1)) (hr' i _ u (by rw [ub,e1];rfl) e2)
 | top=>exact qZ (x:=.top) hr hz hh hb hv
 | undef=>exact qZ (x:=.undef) hr hz hh hb hv
 | ap y=>exact qZ (x:=.ap y) hr hz hh hb hv
 | nil=>exact qZ (x:=.nil) hr hz hh hb hv
 | cr=>exact qZ (x:=.cr) hr hz hh hb hv
 | aS a b=>exact qZ (x:=.aS a b) hr hz hh hb hv
 | cE a=>exact qZ (x:=.cE a) hr hz hh hb hv
 | ptr a b c=>exact qZ (x:=.ptr a b c) hr hz hh hb hv
 | Zaj a b c=>exact qZ (x:=.Zaj a b c) hr hz hh hb hv
 | map a=>exact qZ (x:=.map a) hr hz hh hb hv
 | func a b c=>exact qZ (x:=.func a b c) hr hz hh hb hv
 | agg a=>exact qZ (x:=.agg a) hr hz hh hb hv
 | eH a b=>exact qZ (x:=.eH a b) hr hz hh hb hv
theorem qQ {g0:Gh} {m:Nat} (hr:∀ i,i < m→g.ρ (φ i)=g0.ρ i) (hz:g0.Z=g.Z) (hN:∀ i,i < m→N (φ i)) (hh:∀ i o,i < m→h (φ i)=some o→∃ o0,h0 i=some o0∧o=qd φ o0) {x:AV} {v:Value} (hb:zP m x=true) (hv:RV C g0 h0 (· < m) w x v):RV C g h N w (jq φ x) v:=by
 cases hv with
 | top=>cases v<;>exact .top _
 | undef=>exact .undef
 | ap y _ hr'=>exact .ap _ _ (by rw [←hz];exact hr')
 | nil=>exact .nil
 | cr a cap=>exact .cr a cap
 | eH l id hid hp=>
  refine .eH l (φ id) (hN id hid) fun R s pe h2 => ?_
  obtain ⟨o0,e0,e1⟩:=hh id _ hid h2
  cases o0<;>simp only [qd] at e1<;>cases e1
  rw [hr id hid];exact hp _ _ _ e0
 | aS id af _ hr' hid ht=>
  refine .aS (φ id) af v (by rw [←hz];exact hr') (hN id hid) fun sz len h1 => ?_
  obtain ⟨o0,e0,e1⟩:=hh id _ hid h1
  cases o0<;>simp only [qd] at e1<;>cases e1
  obtain ⟨a1,a2,a3⟩:=ht _ _ e0
  refine ⟨a1,a2,fun e => ?_⟩
  rcases a3 e with ⟨b1,b2⟩ | ⟨b,cap,c,e',b1,b2,b3,b4⟩
  ·exact .inl ⟨by rw [hr id hid];exact b1,b2⟩
  ·exact .inr ⟨b,cap,c,e',by rw [hr id hid];exact b1,b2,b3,b4⟩
 | cE cells b off cv gL hc hr'=>exact .cE cells b off cv (by rw [←hz];exact gL) hc (by rw [←hz];exact hr')
 | ptr id row off _ hid h1 hp=>
  refine .ptr (φ id) row off v (hN id hid) h1 fun sz af h2 => ?_
  obtain ⟨o0,e0,e1⟩:=hh id _ hid h2
  cases o0<;>simp only [qd] at e1<;>cases e1
  obtain ⟨b,b1,b2⟩:=hp _ _ e0
  exact ⟨b,by rw [hr id hid];exact b1,b2⟩
 | Zaj id off len _ hid h1 hp=>
  refine .Zaj (φ id) off len v (hN id hid) h1 fun sz af h2 => ?_
  obtain ⟨o0,e0,e1⟩:=hh id _ hid h2
  cases o0<;>simp only [qd] at e1<;>cases e1
  obtain ⟨b1,b2⟩:=hp _ _ e0
  refine ⟨by simpa using b1,?_⟩
  rcases b2 with ⟨c1,c2,c3⟩ | ⟨b,cap,c,e,c1,c2,c3,c4,c5⟩
  ·exact .inl ⟨by rw [hr id hid];exact c1,by rw [c2];rfl,c3⟩
  ·exact .inr ⟨b,cap,c,e,by rw [hr id hid];exact c1,c2,c3,c4,c5⟩
 | map id _ hid h1 hp=>
  refine .map (φ id) v (hN id hid) h1 fun es h2 => ?_
  obtain ⟨o0,e0,e1⟩:=hh id _ hid h2
  cases o0<;>simp only [qd] at e1<;>cases e1
  obtain ⟨b,b1,b2⟩:=hp _ e0
  exact ⟨b,by rw [hr id hid];exact b1,b2⟩
 | func=>cases hb
 | agg=>cases hb
 | tuple=>cases hb
theorem jx {g0:Gh} {m:Nat} (hr:∀ i,i < m→g.ρ (φ i)=g0.ρ i) (hz:g0.Z=g.Z) (hN:∀ i,i < m→N (φ i)) (hh:∀ i o,i < m→h (φ i)=some o→∃ o0,h0 i=some o0∧o=qd φ o0) {x:AV} {v:Value} (hb:xx m x=true) (hv:RV C g0 h0 (· < m) w x v):RV C g h N w (Qr φ x) v:=by
 cases x with
 | func f a c=>
  simp only [xx,ul,ud] at hb
  simp only [Qr]
  cases hv with
  | func _ _ _ vf vc hlf hlc hf hc=>
   refine .func f _ _ vf vc (by simpa using hlf) (by simpa using hlc) (fun i y u h1 h2 => ?_) (fun i y u h1 h2 => ?_)
   ·rw [ub,uc] at h1
    obtain ⟨z,h1,rfl⟩:=h1
    exact qQ hr hz hN hh (hb.1 z (ua h1)) (hf i z u h1 h2)
   ·rw [ub,uc] at h1
    obtain ⟨z,h1,rfl⟩:=h1
    exact qQ hr hz hN hh (hb.2 z (ua h1)) (hc i z u h1 h2)
 | agg cs=>
  simp only [xx,ud] at hb
  simp only [Qr]
  cases hv with
  | agg _ vs hl h1 hr'=>
   refine .agg _ vs (by simpa using hl) h1 fun i y u e1 e2 => ?_
   rw [ub,uc] at e1
   obtain ⟨z,e1,rfl⟩:=e1
   exact qQ hr hz hN hh (hb z (ua e1)) (hr' i z u e1 e2)
 | tuple cs=>
  simp only [xx,ud] at hb
  simp only [Qr]
  cases hv with
  | tuple _ vs hl hr'=>
   refine .tuple _ vs (by simpa using hl) fun i y u e1 e2 => ?_
   rw [ub,uc] at e1
   obtain ⟨z,e1,rfl⟩:=e1
   exact qQ hr hz hN hh (hb z (ua e1)) (hr' i z u e1 e2)
 | top=>exact qQ (x:=.top) hr hz hN hh hb hv
 | undef=>exact qQ (x:=.undef) hr hz hN hh hb hv
 | ap y=>exact qQ (x:=.ap y) hr hz hN hh hb hv
 | nil=>exact qQ (x:=.nil) hr hz hN hh hb hv
 | cr=>exact qQ (x:=.cr) hr hz hN hh hb hv
 | aS a b=>exact qQ (x:=.aS a b) hr hz hN hh hb hv
 | cE a=>exact qQ (x:=.cE a) hr hz hN hh hb hv
 | ptr a b c=>exact qQ (x:=.ptr a b c) hr hz hN hh hb hv
 | Zaj a b c=>exact qQ (x:=.Zaj a b c) hr hz hN hh hb hv
 | map a=>exact qQ (x:=.map a) hr hz hN hh hb hv
 | eH a b=>exact qQ (x:=.eH a b) hr hz hN hh hb hv
theorem Dg {g0:Gh} {m:Nat} (hr:∀ i,i < m→g.ρ (φ i)=g0.ρ i) (hz:g0.Z=g.Z) (hN:∀ i,i < m→N (φ i)) (hh:∀ i o,i < m→h (φ i)=some o→∃ o0,h0 i=some o0∧o=qd φ o0) {x:AV} {v:Value} (hb:zX m x=true) (hv:RV C g0 h0 (· < m) w x v):RV C g h N w (vi φ x) v:=by
 cases x with
 | tuple cs=>
  simp only [zX,ud] at hb
  simp only [vi]
  cases hv with
  | tuple _ vs hl hr'=>
   refine .tuple _ vs (by simpa using hl) fun i y u e1 e2 => ?_
   rw [ub,uc] at e1
   obtain ⟨z,e1,rfl⟩:=e1
   exact jx hr hz hN hh (hb z (ua e1)) (hr' i z u e1 e2)
 | top=>exact jx (x:=.top) hr hz hN hh hb hv
 | undef=>exact jx (x:=.undef) hr hz hN hh hb hv
 | ap y=>exact jx (x:=.ap y) hr hz hN hh hb hv
 | nil=>exact jx (x:=.nil) hr hz hN hh hb hv
 | cr=>exact jx (x:=.cr) hr hz hN hh hb hv
 | aS a b=>exact jx (x:=.aS a b) hr hz hN hh hb hv
 | cE a=>exact jx (x:=.cE a) hr hz hN hh hb hv
 | ptr a b c=>exact jx (x:=.ptr a b c) hr hz hN hh hb hv
 | Zaj a b c=>exact jx (x:=.Zaj a b c) hr hz hN hh hb hv
 | map a=>exact jx (x:=.map a) hr hz hN hh hb hv
 | func a b c=>exact jx (x:=.func a b c) hr hz hN hh hb hv
 | agg a=>exact jx (x:=.agg a) hr hz hN hh hb hv
 | eH a b=>exact jx (x:=.eH a b) hr hz hN hh hb hv
theorem Og {g0:Gh} {m b:Nat} (hr:∀ i,i < m→g0.ρ i=g.ρ (φ i)) (hz:g0.Z=g.Z) (hh:∀ i o,h0 i=some o→h (φ i)=some (qd φ o)) {o:aD} (hb:zY m o) (hv:cG C g h N w b (qd φ o)):cG C g0 h0 (· < m) w b o:=by
 cases o with
 | af sz af=>
  simp only [qd,cG] at hv ⊢
  obtain ⟨a1,c,e,a2,a3,a4⟩:=hv
  refine ⟨by rw [hz];exact a1,c,e,a2,fun i row h1 => ?_,fun i row j x h1 h2 => ?_⟩
  ·have:=a3 i (yI φ row) (by rw [ub,h1];rfl);simpa [yI] using this
  ·obtain ⟨cv,b1,b2,b3⟩:=a4 i (yI φ row) j (vi φ x) (by rw [ub,h1];rfl) (by simp only [yI];rw [ub,h2];rfl)
   exact ⟨cv,b1,b2,YZ hr hz hh (hb row (ua h1) x (ua h2)) b3⟩
 | aU sz l=>simp only [qd,cG] at hv ⊢; rw [hz];exact hv
 | map es=>
  simp only [qd,cG] at hv ⊢
  obtain ⟨a1,cF,clock,a2,a3,a4⟩:=hv
  refine ⟨by rw [hz];exact a1,cF,clock,a2,by simpa using a3,fun i k x h1 => ?_⟩
  obtain ⟨e,b1,b2,b3⟩:=a4 i k (vi φ x) (by rw [ub,h1];rfl)
  exact ⟨e,b1,b2,YZ hr hz hh (hb _ (ua h1)) b3⟩
 | dead=>trivial
 | lp l R s pe=>simp only [qd,cG] at hv ⊢; rw [hz];exact hv
theorem Oh {g0:Gh} {m b:Nat} (hr:∀ i,i < m→g.ρ (φ i)=g0.ρ i) (hz:g0.Z=g.Z) (hN:∀ i,i < m→N (φ i)) (hh:∀ i o,i < m→h (φ i)=some o→∃ o0,h0 i=some o0∧o=qd φ o0) {o:aD} (hb:zY m o) (hv:cG C g0 h0 (· < m) w b o):cG C g h N w b (qd φ o):=by
 cases o with
 | af sz af=>
  simp only [qd,cG] at hv ⊢
  obtain ⟨a1,c,e,a2,a3,a4⟩:=hv
  refine ⟨by rw [←hz];exact a1,c,e,a2,fun i row h1 => ?_,fun i row j x h1 h2 => ?_⟩
  ·rw [ub,uc] at h1
   obtain ⟨z,h1,rfl⟩:=h1
   simpa [yI] using a3 i z h1
  ·rw [ub,uc] at h1
   obtain ⟨z,h1,rfl⟩:=h1
   simp only [yI] at h2
   rw [ub,uc] at h2
   obtain ⟨y,h2,rfl⟩:=h2
   obtain ⟨cv,b1,b2,b3⟩:=a4 i z j y h1 h2
   exact ⟨cv,b1,b2,Dg hr hz hN hh (hb z (ua h1) y (ua h2)) b3⟩
 | aU sz l=>simp only [qd,cG] at hv ⊢; rw [←hz];exact hv
 | map es=>
  simp only [qd,cG] at hv ⊢
  obtain ⟨a1,cF,clock,a2,a3,a4⟩:=hv
  refine ⟨by rw [←hz];exact a1,cF,clock,a2,by simpa using a3,fun i k x h1 => ?_⟩
  rw [ub,uc] at h1
  obtain ⟨z,h1,h2⟩:=h1
  simp only [Ga] at h2
  cases h2
  obtain ⟨e,b1,b2,b3⟩:=a4 i z.1 z.2 h1
  exact ⟨e,b1,b2,Dg hr hz hN hh (hb _ (ua h1)) b3⟩
 | dead=>trivial
 | lp l R s pe=>simp only [qd,cG] at hv ⊢; rw [←hz];exact hv
theorem X4 {n:Nat} (inj:∀ i j,i < n→j < n→φ i=φ j→i=j):∀ {l:List (Nat×aD)},(∀ p∈l,p.1 < n)→∀ i,i < n→bA (fV φ l) h (φ i)=match za l i with
  | some o=>some (qd φ o)
  | none=>h (φ i)
 | [],_,i,hi=>rfl
 | (k,o)::r,hl,i,hi=>by
  simp only [fV,bA,za]
  by_cases e:k=i
  ·subst e;rw [if_pos rfl,if_pos rfl]
  ·rw [if_neg e,if_neg (fun h=>e (inj k i (hl (k,o) (by simp)) hi h))]
   exact X4 inj (fun p hp=>hl p (by simp [hp])) i hi
theorem yJ {n:Nat}:∀ {l:List (Nat×aD)},(∀ p∈l,p.1 < n)→∀ j,(∀ i,i < n→φ i≠j)→bA (fV φ l) h j=h j
 | [],_,j,hj=>rfl
 | (k,o)::r,hl,j,hj=>by
  simp only [fV,bA]
  rw [if_neg (hj k (hl (k,o) (by simp)))]
  exact yJ (fun p hp=>hl p (by simp [hp])) j hj
open Classical in
noncomputable def inv (φ:Nat→Nat) (n j:Nat):Option Nat:=if h:∃ i,i < n∧φ i=j then some h.choose else none
theorem Oi {n i:Nat} (inj:∀ i j,i < n→j < n→φ i=φ j→i=j) (hi:i < n):inv φ n (φ i)=some i:=by
 unfold inv
 have h:∃ k,k < n∧φ k=φ i:=⟨i,hi,rfl⟩
 rw [dif_pos h]
 have:=h.choose_spec
 rw [inj _ _ this.1 hi this.2]
theorem qJ {n i j:Nat} (h:inv φ n j=some i):i < n∧φ i=j:=by
 unfold inv at h
 split at h
 ·rename_i hh;cases h;exact hh.choose_spec
 ·cases h
theorem yo {n j:Nat} (h:inv φ n j=none):∀ i,i < n→φ i≠j:=by
 unfold inv at h
 split at h
 ·cases h
 ·rename_i hh;exact fun i hi e=>hh ⟨i,hi,e⟩
theorem frame {f m n1:Nat} {dJ:List AV} {ck bP:List (Nat×aD)} {r0:AV} (hc:Df C f dJ ck m r0 bP n1)
  (AN:∀ p∈ck,p.1 < m∧zY m p.2) (hka:∀ x∈dJ,zX m x=true) (hk1:∀ p∈bP,p.1 < n1∧zY n1 p.2) (gG:zX n1 r0=true)
  (hall:∀ i,i < m→(za bP i).isSome=true) (inj:∀ i j,i < n1→j < n1→φ i=φ j→i=j)
  (hB:∀ i o,za ck i=some o→h (φ i)=some (qd φ o)) (hN:∀ i,i < m→N (φ i)) (hfr:∀ i,m≤i→i < n1→¬ N (φ i)) (Dh:∀ j,N j→N' j) (BS:∀ i,i < n1→N' (φ i))
  {vs:List Value} (R:RH C g h N w) (hv:nG C g h N w (AM φ dJ) vs) (hm:m≤n1) :
  Calls C.P (C.ez f) vs.toArray w fun e w'=>∃ v g',e=.returned v∧bV g h N w g' (bA (fV φ bP) h) N' w'∧RH C g' (bA (fV φ bP) h) N' w'∧RV C g' (bA (fV φ bP) h) N' w' (vi φ r0) v:=by
 let g0:Gh:=⟨fun i=>if i < m then g.ρ (φ i) else none,g.Z⟩
 have dP:∀ i,i < m→g0.ρ i=g.ρ (φ i):=fun i hi=>if_pos hi
 have fB:∀ i b,g0.ρ i=some b→i < m∧g.ρ (φ i)=some b:=fun i b hb=>by
  simp only [g0] at hb
  split at hb
  ·exact ⟨‹_›,hb⟩
  ·cases hb
 have Di:∀ i o,za ck i=some o→i < m∧zY m o:=fun i o ho=>AN (i,o) (jo ho)
 have R0:RH C g0 (za ck) (· < m) w:={
  inj:=fun i j b h1 h2=>by
   obtain ⟨a1,a2⟩:=fB i b h1
   obtain ⟨b1,b2⟩:=fB j b h2
   exact inj i j (by omega) (by omega) (R.inj _ _ b a2 b2)
  lt:=fun i b h1=>by
   obtain ⟨a1,a2⟩:=fB i b h1
   exact ⟨(R.lt _ b a2).1,a1⟩
  key:=fun i o ho=>(Di i o ho).1
  obj:=fun i b o h1 ho=>by
   obtain ⟨a1,a2⟩:=fB i b h1
   exact Og dP rfl hB (Di i o ho).2 (R.obj _ b _ a2 (hB i o ho))
  cQ:=fun i sz len ho h1=>by
   have hi:=(Di i _ ho).1
   exact R.cQ (φ i) sz len (hB i _ ho) (by rw [←dP i hi];exact h1)
  dX:=R.dX
  fix:=⟨R.fix.1,R.fix.2.1,fun b hb ⟨i,hi⟩=>R.fix.2.2 b hb ⟨_,(fB i b hi).2⟩⟩}
 have pF:nG C g0 (za ck) (· < m) w dJ vs:=⟨by have:=hv.1;simpa [AM] using this,fun j x u h1 h2=>
  YZ dP rfl hB (hka x (ua h1)) (hv.2 j (vi φ x) u (by simp only [AM];rw [ub,h1];rfl) h2)⟩
 refine (hc.2 g0 w vs R0 pF).mono ?_
 rintro e w' ⟨v,r,mi,nx,g1,rfl,⟨e1,e2,e3⟩,E0,R1,ct⟩
 rw [e2,e3] at E0 R1
 rw [e1,e2,e3] at ct
 clear e1 e2 e3
 have lI:∀ p∈bP,p.1 < n1:=fun p hp=>(hk1 p hp).1
 have nw:∀ i o,za bP i=some o→i < n1∧zY n1 o:=fun i o ho=>hk1 (i,o) (jo ho)
 let g':Gh:=⟨fun j=>match inv φ n1 j with | some i=>g1.ρ i | none=>g.ρ j,g1.Z⟩
 have gp:∀ i,i < n1→g'.ρ (φ i)=g1.ρ i:=fun i hi=>by simp only [g',Oi inj hi]
 have mJ:∀ j,inv φ n1 j=none→g'.ρ j=g.ρ j:=fun j hj=>by simp only [g',hj]
 have hin:∀ i,i < n1→bA (fV φ bP) h (φ i)=match za bP i with | some o=>some (qd φ o) | none=>h (φ i):=X4 inj lI
 have hoff:∀ j,inv φ n1 j=none→bA (fV φ bP) h j=h j:=fun j hj=>yJ lI j (yo hj)
 have iB:∀ i o,i < n1→bA (fV φ bP) h (φ i)=some o→∃ o0,za bP i=some o0∧o=qd φ o0:=fun i o hi ho=>by
  rw [hin i hi] at ho
  cases ha:za bP i with
  | some o0=>rw [ha] at ho;simp only [Option.some.injEq] at ho;exact ⟨o0,rfl,ho.symm⟩
  | none=>
   rw [ha] at ho
   simp only at ho
   rcases ui i m with h1 | h1
   ·have:=hall i h1;rw [ha] at this;cases this
   ·exact absurd (R.key _ _ ho) (hfr i h1 hi)
 have tQ:∀ j,N j→∀ i,inv φ n1 j=some i→i < m:=fun j hj i hi=>by
  obtain ⟨h1,h2⟩:=qJ hi
  rcases ui i m with h3 | h3
  ·exact h3
  ·exact absurd (by rw [h2];exact hj) (hfr i h3 h1)
 have E:bV g h N w g' (bA (fV φ bP) h) N' w':={
  os:=E0.os
  tape:=E0.tape
  output:=E0.output
  size:=E0.size
  old:=fun b hb ho=>E0.old b hb (fun ⟨i,hi⟩=>ho ⟨φ i,(fB i b hi).2⟩)
  own:=fun b ⟨j,hj⟩=>by
   cases hi:inv φ n1 j with
   | some i=>
    obtain ⟨h1,rfl⟩:=qJ hi
    rw [gp i h1] at hj
    rcases E0.own b ⟨i,hj⟩ with ⟨k,hk⟩ | hk
    ·exact .inl ⟨φ k,(fB k b hk).2⟩
    ·exact .inr hk
   | none=>rw [mJ j hi] at hj;exact .inl ⟨j,hj⟩
  bW:=E0.bW
  cell:=E0.cell
  shape:=E0.shape
  next:=Dh
  eu:=fun j b hb o ho hnd hj=>by
   cases hi:inv φ n1 j with
   | some i=>
    have fj:=tQ j hj i hi
    obtain ⟨h1,rfl⟩:=qJ hi
    obtain ⟨o0,e0,rfl⟩:=iB i o h1 ho
    rw [gp i h1]
    rcases E0.eu i b (by rw [dP i fj];exact hb) o0 e0 (fun e=>hnd (by rw [e];rfl)) fj with h3 | ⟨sz,l,sz',l',h3,h4,h5⟩
    ·exact .inl h3
    ·subst h4;exact .inr ⟨sz,l,sz',l',by rw [hB i _ h3];rfl,rfl,h5⟩
   | none=>rw [mJ j hi];exact .inl hb
  cI:=fun j hb hj o ho hnd=>by
   cases hi:inv φ n1 j with
   | some i=>
    have fj:=tQ j hj i hi
    obtain ⟨h1,rfl⟩:=qJ hi
    obtain ⟨o0,e0,rfl⟩:=iB i o h1 ho
    rw [gp i h1]
    rcases E0.cI i (by rw [dP i fj];exact hb) fj o0 e0 (fun e=>hnd (by rw [e];rfl)) with h3 | ⟨sz,l,sz',l',h3,h4,h5⟩
    ·exact .inl h3
    ·subst h4;exact .inr ⟨sz,l,sz',l',by rw [hB i _ h3];rfl,rfl,h5⟩
   | none=>rw [mJ j hi];exact .inl hb
  af:=fun j hj sz af ho=>by
   cases hi:inv φ n1 j with
   | some i=>
    have fj:=tQ j hj i hi
    obtain ⟨h1,rfl⟩:=qJ hi
    obtain ⟨o0,e0,e1⟩:=iB i _ h1 ho
    cases o0<;>simp only [qd] at e1<;>cases e1
    obtain ⟨r2,h3,h4⟩:=E0.af i fj _ _ e0
    exact ⟨_,by rw [hB i _ h3];rfl,by simpa using h4⟩
   | none=>rw [hoff j hi] at ho;exact ⟨af,ho,rfl⟩
  cR:=fun j hj sz len ho=>by
   cases hi:inv φ n1 j with
   | some i=>
    have fj:=tQ j hj i hi
    obtain ⟨h1,rfl⟩:=qJ hi
    obtain ⟨o0,e0,e1⟩:=iB i _ h1 ho
    cases o0<;>simp only [qd] at e1<;>cases e1
    obtain ⟨l2,h3,h4⟩:=E0.cR i fj _ _ e0
    exact ⟨l2,by rw [hB i _ h3];rfl,h4⟩
   | none=>rw [hoff j hi] at ho;exact ⟨len,ho,uj _⟩
  maps:=fun j hj es ho=>by
   cases hi:inv φ n1 j with
   | some i=>
    have fj:=tQ j hj i hi
    obtain ⟨h1,rfl⟩:=qJ hi
    obtain ⟨o0,e0,e1⟩:=iB i _ h1 ho
    cases o0<;>simp only [qd] at e1<;>cases e1
    obtain ⟨e2,h3⟩:=E0.maps i fj _ e0
    exact ⟨_,by rw [hB i _ h3];rfl⟩
   | none=>rw [hoff j hi] at ho;exact ⟨es,ho⟩
  fJ:=fun j hj ll RR s pe ho=>by
   cases hi:inv φ n1 j with
   | some i=>
    have fj:=tQ j hj i hi
    obtain ⟨h1,rfl⟩:=qJ hi
    obtain ⟨o0,e0,e1⟩:=iB i _ h1 ho
    cases o0<;>simp only [qd] at e1<;>cases e1
    obtain ⟨e2,e3,h3⟩:=E0.fJ i fj _ _ _ _ e0
    exact ⟨_,_,by rw [hB i _ h3];rfl⟩
   | none=>rw [hoff j hi] at ho;exact ⟨s,pe,ho⟩}
 have hR:RH C g' (bA (fV φ bP) h) N' w':={
  inj:=fun i j b h1 h2=>by
   cases hi:inv φ n1 i with
   | some i0=>
    obtain ⟨a1,rfl⟩:=qJ hi
    rw [gp i0 a1] at h1
    cases hj:inv φ n1 j with
    | some j0=>
     obtain ⟨b1,rfl⟩:=qJ hj
     rw [gp j0 b1] at h2
     rw [R1.inj i0 j0 b h1 h2]
    | none=>
     rw [mJ j hj] at h2
     rcases E0.own b ⟨i0,h1⟩ with ⟨k,hk⟩ | hk
     ·obtain ⟨k1,k2⟩:=fB k b hk
      have:=R.inj _ _ b k2 h2
      exact absurd this (yo hj k (by omega))
     ·have:=(R.lt j b h2).1;omega
   | none=>
    rw [mJ i hi] at h1
    cases hj:inv φ n1 j with
    | some j0=>
     obtain ⟨b1,rfl⟩:=qJ hj
     rw [gp j0 b1] at h2
     rcases E0.own b ⟨j0,h2⟩ with ⟨k,hk⟩ | hk
     ·obtain ⟨k1,k2⟩:=fB k b hk
      have:=R.inj _ _ b k2 h1
      exact absurd this (yo hi k (by omega))
     ·have:=(R.lt i b h1).1;omega
    | none=>
     rw [mJ j hj] at h2
     exact R.inj i j b h1 h2
  lt:=fun i b h1=>by
   cases hi:inv φ n1 i with
   | some i0=>
    obtain ⟨a1,rfl⟩:=qJ hi
    rw [gp i0 a1] at h1
    exact ⟨(R1.lt i0 b h1).1,BS i0 a1⟩
   | none=>
    rw [mJ i hi] at h1
    obtain ⟨a1,a2⟩:=R.lt i b h1
    exact ⟨uo a1 E0.size,Dh i a2⟩
  key:=fun i o ho=>by
   cases hi:inv φ n1 i with
   | some i0=>obtain ⟨a1,rfl⟩:=qJ hi;exact BS i0 a1
   | none=>rw [hoff i hi] at ho;exact Dh i (R.key i o ho)
  obj:=fun i b o h1 ho=>by
   cases hi:inv φ n1 i with
   | some i0=>
    obtain ⟨a1,rfl⟩:=qJ hi
    rw [gp i0 a1] at h1
    obtain ⟨o0,e0,rfl⟩:=iB i0 o a1 ho
    exact Oh (fun i hi=>gp i hi) rfl BS iB (nw i0 o0 e0).2 (R1.obj i0 b o0 h1 e0)
   | none=>
    rw [mJ i hi] at h1
    rw [hoff i hi] at ho
    have hro:=R.obj i b o h1 ho
    have hno:¬ vE g0 b:=fun ⟨k,hk⟩=>by
     obtain ⟨k1,k2⟩:=fB k b hk
     exact yo hi k (by omega) (R.inj _ _ b k2 h1)
    obtain ⟨q1,q2⟩:=E0.old b (R.lt i b h1).1 hno
    have BT:g'.Z b=g.Z b:=q2
    cases o with
    | af sz af=>
     simp only [cG] at hro ⊢
     obtain ⟨a1,c,e,a2,a3,a4⟩:=hro
     refine ⟨by rw [BT];exact a1,c,e,by rw [q1];exact a2,a3,fun i row j x u1 u2 => ?_⟩
     obtain ⟨cv,b1,b2,b3⟩:=a4 i row j x u1 u2
     exact ⟨cv,b1,b2,b3.mono E⟩
    | aU sz l=>
     simp only [cG] at hro ⊢
     rw [q1,BT]
     exact hro
    | map es=>
     simp only [cG] at hro ⊢
     obtain ⟨a1,cF,clock,a2,a3,a4⟩:=hro
     refine ⟨by rw [BT];exact a1,cF,clock,by rw [q1];exact a2,a3,fun i k x u1 => ?_⟩
     obtain ⟨e,b1,b2,b3⟩:=a4 i k x u1
     exact ⟨e,b1,b2,b3.mono E⟩
    | dead=>trivial
    | lp l R s pe=>
     simp only [cG] at hro ⊢
     rw [q1,BT]
     exact hro
  cQ:=fun i sz len ho h1=>by
   cases hi:inv φ n1 i with
   | some i0=>
    obtain ⟨a1,rfl⟩:=qJ hi
    rw [gp i0 a1] at h1
    obtain ⟨o0,e0,e1⟩:=iB i0 _ a1 ho
    cases o0<;>simp only [qd] at e1<;>cases e1
    exact R1.cQ i0 _ _ e0 h1
   | none=>
    rw [mJ i hi] at h1
    rw [hoff i hi] at ho
    exact R.cQ i sz len ho h1
  dX:=R1.dX
  fix:=R.fix.eN E}
 exact ⟨v,g',rfl,E,hR,Dg (fun i hi=>gp i hi) rfl BS iB gG ct⟩
end
end
inductive cK:List Prop→Prop where
 | nil:cK []
 | cons {p:Prop} {ps:List Prop} (h:p) (t:cK ps):cK (p::ps)
theorem cK.app:∀ {ps qs:List Prop},cK (ps++qs)→cK ps∧cK qs
 | [],qs,h=>⟨.nil,h⟩
 | p::ps,qs,h=>by
  cases h with
  | cons h t=>exact ⟨.cons h (cK.app t).1,(cK.app t).2⟩
theorem cK.one {p:Prop} (h:cK [p]):p:=by cases h;assumption
structure dm (C:Ctx) (f:Nat) (dJ:List AV) (ck:List (Nat×aD)) (m:Nat) (r0:AV) (bP:List (Nat×aD)) (d:Nat):Prop where
 dA:Df C f dJ ck m r0 bP (m+d)
 k0:∀ p∈ck,p.1 < m∧zY m p.2
 ka:∀ x∈dJ,zX m x=true
 k1:∀ p∈bP,p.1 < m+d∧zY (m+d) p.2
 kr:zX (m+d) r0=true
 all:∀ i,i < m→(za bP i).isSome=true
 AO:∀ i,i < m→(za ck i).isSome=true
def fG (l:List Nat) (m next:Nat):Nat→Nat:=fun i=>if i < m then l.getD i 0 else next+(i - m)
def Zy:List Nat→Bool
 | []=>true
 | x::r=>!(r.contains x)&&Zy r
inductive gw (h0:List (Nat×aD)):List (Nat×aD)→List (Nat×aD)→Prop where
 | nil:gw h0 [] []
 | keep {k:Nat} {o:aD} {r s:List (Nat×aD)} (t:gw h0 r s):gw h0 ((k,o)::r) ((k,o)::s)
 | drop {k:Nat} {o:aD} {r s:List (Nat×aD)} (hk:za h0 k=some o) (hs:za s k=none) (t:gw h0 r s):gw h0 ((k,o)::r) s
theorem gw.get {h0 h1 h2:List (Nat×aD)} (t:gw h0 h1 h2):∀ i,za h1 i=za h2 i∨(za h2 i=none∧za h1 i=za h0 i):=by
 induction t with
 | nil=>exact fun i=>.inl rfl
 | keep t ih=>
  intro i
  simp only [za]
  split
  ·exact .inl rfl
  ·exact ih i
 | drop hk hs t ih=>
  intro i
  simp only [za]
  split
  ·rename_i e;subst e;exact .inr ⟨hs,hk.symm⟩
  ·exact ih i
theorem gw.sub {h0 h1 h2:List (Nat×aD)} (t:gw h0 h1 h2):∀ p∈h2,p∈h1:=by
 induction t with
 | nil=>exact fun p hp=>hp
 | keep t ih=>
  intro p hp
  rcases ue.1 hp with e | e
  ·rw [e];simp
  ·exact uh _ (ih p e)
 | drop hk hs t ih=>exact fun p hp=>uh _ (ih p hp)
theorem Gb {φ:Nat→Nat} {n:Nat} {h:Nat→Option aD} {h0 h1 h2:List (Nat×aD)} (inj:∀ i j,i < n→j < n→φ i=φ j→i=j) (hl:∀ p∈h1,p.1 < n) (hB:∀ i o,za h0 i=some o→h (φ i)=some (qd φ o)) (t:gw h0 h1 h2):bA (fV φ h1) h=bA (fV φ h2) h:=by
 funext j
 cases hj:inv φ n j with
 | some i=>
  obtain ⟨hi,rfl⟩:=qJ hj
  rw [X4 inj hl i hi,X4 inj (fun p hp=>hl p (t.sub p hp)) i hi]
  rcases t.get i with e | ⟨e1,e2⟩
  ·rw [e]
  ·rw [e1,e2]
   cases ho:za h0 i with
   | none=>rfl
   | some o=>simp only;rw [hB i o ho]
 | none=>rw [yJ hl j (yo hj),yJ (fun p hp=>hl p (t.sub p hp)) j (yo hj)]
def lT (C:Ctx) (f:Nat) (args:List AV) (l:List Nat) (m next:Nat) (bU:List (Nat×aD)) (r:AV) (aN:List (Nat×aD)) (d:Nat):Prop:=
 ∃ dJ ck r0 bP gl,dm C f dJ ck m r0 bP d∧gw ck bP gl∧AM (fG l m next) dJ=args∧fV (fG l m next) ck=bU∧vi (fG l m next) r0=r∧fV (fG l m next) gl=aN
theorem zf {C:Ctx} {f m d:Nat} {dJ:List AV} {ck bP gl bU aN:List (Nat×aD)} {r0:AV} (hd:dm C f dJ ck m r0 bP d) (l:List Nat) (next:Nat) (ht:gw ck bP gl) (ho:fV (fG l m next) ck=bU) (hu:fV (fG l m next) gl=aN) :
 lT C f (AM (fG l m next) dJ) l m next bU (vi (fG l m next) r0) aN d:=⟨dJ,ck,r0,bP,gl,hd,ht,rfl,ho,rfl,hu⟩
def xy (heap:List (Nat×aD)):List Nat→Option (List (Nat×aD))
 | []=>some []
 | i::l=>match za heap i with
  | none=>none
  | some o=>match xy heap l with
   | some r=>some ((i,o)::r)
   | none=>none
theorem yY {heap:List (Nat×aD)}:∀ {l:List Nat} {bU:List (Nat×aD)},xy heap l=some bU→∀ p∈bU,za heap p.1=some p.2
 | [],bU,h=>by cases h;intro p hp;cases hp
 | i::l,bU,h=>by
  simp only [xy] at h
  split at h
  ·cases h
  ·rename_i o ho
   split at h
   ·rename_i r hr
    cases h
    intro p hp
    rcases ue.1 hp with rfl | hp
    ·exact ho
    ·exact yY hr p hp
   ·cases h
theorem X5 {φ:Nat→Nat}:∀ {l:List (Nat×aD)} {k:Nat} {o:aD},(k,o)∈l→(φ k,qd φ o)∈fV φ l
 | (k',o')::r,k,o,h=>by
  simp only [fV]
  rcases ue.1 h with h | h
  ·cases h;simp
  ·exact uh _ (X5 h)
theorem VV:∀ {l:List Nat},Zy l=true→∀ i j:Nat,i < l.length→j < l.length→l.getD i 0=l.getD j 0→i=j
 | [],_,i,j,hi,_,_=>by simp at hi
 | x::r,h,i,j,hi,hj,e=>by
  simp only [Zy,ul,uA,List.contains_eq_mem,decide_eq_false_iff_not] at h
  have key:∀ k,k < r.length→r.getD k 0∈r:=fun k hk=>by simp [hk]
  cases i with
  | zero=>
   cases j with
   | zero=>rfl
   | succ j=>
    simp only [ux,um] at e
    exact absurd (by rw [e];exact key j (by simpa using hj)) h.1
  | succ i=>
   cases j with
   | zero=>
    simp only [ux,um] at e
    exact absurd (by rw [←e];exact key i (by simpa using hi)) h.1
   | succ j=>
    simp only [um] at e
    rw [VV h.2 i j (by simpa using hi) (by simpa using hj) e]
structure ot (l:List Nat) (m next:Nat):Prop where
 len:l.length=m
 nd:Zy l=true
 lt:∀ x∈l,x < next
def yZ (l:List Nat) (m next:Nat):Bool:=l.length == m&&Zy l&&l.all fun x=>decide (x < next)
theorem Gc {l:List Nat} {m next:Nat} (h:yZ l m next=true):ot l m next:=by
 simp only [yZ,ul,beq_iff_eq,ud,decide_eq_true_eq] at h
 exact ⟨h.1.1,h.1.2,h.2⟩
theorem VW {l:List Nat} {m next:Nat} (P:ot l m next) {i:Nat} (hi:i < m):fG l m next i < next:=by
 simp only [fG,if_pos hi]
 exact P.lt _ (by simp [P.len,hi])
theorem X6 {l:List Nat} {m next:Nat} (P:ot l m next) (i j:Nat) (e:fG l m next i=fG l m next j):i=j:=by
 rcases ui i m with h1 | h1<;>rcases ui j m with h2 | h2
 ·simp only [fG,if_pos h1,if_pos h2] at e
  exact VV P.nd i j (by rw [P.len];exact h1) (by rw [P.len];exact h2) e
 ·have:=VW P h1
  simp only [fG,if_neg (uq.2 h2)] at e this
  omega
 ·have:=VW P h2
  simp only [fG,if_neg (uq.2 h1)] at e this
  omega
 ·simp only [fG,if_neg (uq.2 h1),if_neg (uq.2 h2)] at e
  omega
theorem bH.dA {C:Ctx} {f m d next:Nat} {args:List AV} {heap bU aN:List (Nat×aD)} {l:List Nat} {r:AV} {K:AV→List (Nat×aD)→Nat→Prop} (hc:lT C f args l m next bU r aN d) (hp:yZ l m next=true) (ho:xy heap l=some bU)
  (hK:K r (zL aN heap) (next+d)):bH C f args heap next K:=by
 obtain ⟨dJ,ck,r0,bP,gl,D,T,rfl,rfl,rfl,rfl⟩:=hc
 have P:=Gc hp
 refine ⟨D.dA.1,fun g w vs R hv => ?_⟩
 have AP:=Gb (φ:=fG l m next) (n:=m+d) (h:=za heap) (fun i j _ _ e=>X6 P i j e) (fun p hp=>(D.k1 p hp).1) (fun i o hi=>yY ho _ (X5 (jo hi))) T
 have:=frame (φ:=fG l m next) (N':=(· < next+d)) D.dA D.k0 D.ka D.k1 D.kr D.all (fun i j _ _ e=>X6 P i j e)
  (fun i o hi=>yY ho _ (X5 (jo hi))) (fun i hi=>VW P hi) (fun i h1 _=>by simp only [fG,if_neg (uq.2 h1)];omega) (fun j hj=>by omega)
  (fun i hi=>by
   rcases ui i m with h1 | h1
   ·have:=VW P h1;omega
   ·simp only [fG,if_neg (uq.2 h1)];omega) R hv (by omega)
 refine this.mono ?_
 rintro e w' ⟨v,g',rfl,E,R',hr⟩
 refine ⟨v,_,_,_,g',rfl,hK,?_,?_,?_⟩
 ·rw [jL,←AP];exact E
 ·rw [jL,←AP];exact R'
 ·rw [jL,←AP];exact hr
theorem dz.dA {C:Ctx} {f m next d:Nat} {args:List AV} {heap bU aN:List (Nat×aD)} {l:List Nat} {r:AV} (hc:lT C f args l m next bU r aN d) (hp:yZ l m next=true) (ho:xy heap l=some bU) :
  dz C f args (za heap) l r aN (uB next d):=by
 obtain ⟨dJ,ck,r0,bP,gl,D,T,rfl,rfl,rfl,rfl⟩:=hc
 have P:=Gc hp
 refine ⟨D.dA.1,fun g h N w vs hag hex R hv => ?_⟩
 have hmem:∀ i o,za ck i=some o→h (fG l m next i)=some (qd (fG l m next) o):=fun i o hi=>by
  have hi':=(D.k0 _ (jo hi)).1
  rw [hag _ (by simp only [fG,if_pos hi'];simp [P.len,hi'])]
  exact yY ho _ (X5 (jo hi))
 have Gd:∀ i,i < m→N (fG l m next i):=fun i hi=>by
  obtain ⟨o,ho⟩:=Option.isSome_iff_exists.1 (D.AO i hi)
  exact R.key _ _ (hmem i o ho)
 have AP:=Gb (φ:=fG l m next) (n:=m+d) (h:=h) (fun i j _ _ e=>X6 P i j e) (fun p hp=>(D.k1 p hp).1) hmem T
 rw [←AP]
 have hnew:∀ i,m≤i→i < m+d→fG l m next i∈uB next d:=fun i h1 h2=>by
  rw [List.mem_range'_1];simp only [fG,if_neg (show ¬ i < m by omega)];omega
 exact frame (φ:=fG l m next) (N':=xc N (uB next d)) D.dA D.k0 D.ka D.k1 D.kr D.all (fun i j _ _ e=>X6 P i j e) hmem Gd (fun i h1 h2=>hex _ (hnew i h1 h2)) (fun j hj=>.inl hj)
  (fun i hi=>by
   rcases ui i m with h1 | h1
   ·exact .inl (Gd i h1)
   ·exact .inr (hnew i h1 hi)) R hv (by omega)
theorem gj.dA {C:Ctx} {f m next:Nat} {args:List AV} {heap bU aN:List (Nat×aD)} {l:List Nat} {r:AV} {KD:List Nat→AV→List (Nat×aD)→Prop} (hc:lT C f args l m next bU r aN 0) (hp:yZ l m next=true) (ho:xy heap l=some bU)
 (hK:KD l r aN):gj C f args heap KD:=⟨l,_,_,dz.dA hc hp ho,hK⟩
def zb {α:Type} (f:α→List IV) (l:List α):List (List AV):=l.map fun x=>zu (f x)
theorem Oj (φ:Nat→Nat) (r:List IV):yI φ (zu r)=zu r:=by
 simp only [yI,zu,uD]
 exact uy fun x _=>rfl
theorem Ol {α:Type} (φ:Nat→Nat) (f:α→List IV) (l:List α):(zb f l).map (yI φ)=zb f l:=by
 simp only [zb,uD]
 exact uy fun x _=>Oj φ (f x)
theorem bw {φ:Nat→Nat}:fV φ []=[]:=rfl
theorem bM {φ:Nat→Nat} {k:Nat} {o:aD} {r s:List (Nat×aD)} (h:fV φ r=s):fV φ ((k,o)::r)=(φ k,qd φ o)::s:=by rw [←h];rfl
theorem bG {φ:Nat→Nat} {k sz:Nat} {α:Type} {f:α→List IV} {l:List α} {r s:List (Nat×aD)} (h:fV φ r=s):fV φ ((k,.af sz (zb f l))::r)=(φ k,.af sz (zb f l))::s:=by
 rw [←h];simp only [fV,qd,Ol]
theorem wK {α:Type} (m sz:Nat) (f:α→List IV) (l:List α):zY m (.af sz (zb f l)):=by
 simp only [zY,zb]
 intro row hr x hx
 obtain ⟨y,_,rfl⟩:=un.1 hr
 obtain ⟨z,_,rfl⟩:=un.1 hx
 rfl
def zp {α β:Type} (kf:α→IV) (vf:β→IV) (es:List (α×β)):List (IV×AV):=es.map fun e=>(kf e.1,.ap (vf e.2))
theorem Om {α β:Type} (m:Nat) (kf:α→IV) (vf:β→IV) (es:List (α×β)):zY m (.map (zp kf vf es)):=by
 simp only [zY,zp]
 intro e he
 obtain ⟨y,_,rfl⟩:=un.1 he
 rfl
theorem On {h0 h:Nat→Option aD} (hs:∀ i o,h0 i=some o→h i=some o):∀ (d:Nat) (x:AV) (y:IV),zC h0 d x=some y→zC h d x=some y:=by
 have AQ:∀ {β γ:Type} {f f':β→Option γ},(∀ x y,f x=some y→f' x=some y)→∀ (l:List β) (r:List γ),aI f l=some r→aI f' l=some r:=by
  intro β γ f f' hf l
  induction l with
  | nil=>intro r h;exact h
  | cons a l ih=>
   intro r h
   simp only [aI] at h ⊢
   split at h
   ·rename_i b hb
    split at h
    ·rename_i bs rT
     cases h
     rw [hf _ _ hb]
     simp only
     rw [ih _ rT]
    ·cases h
   ·cases h
 intro d
 induction d with
 | zero=>intro x y h;cases h
 | succ d ih=>
  intro x y h
  cases x<;>simp only [zC] at h ⊢ <;> first | exact h | skip
  case map id=>
   split at h
   ·rename_i es ho
    rw [hs _ _ ho]
    simp only
    rw [uc] at h ⊢
    obtain ⟨out,h1,h2⟩:=h
    refine ⟨out,AQ (fun e y he => ?_) _ _ h1,h2⟩
    rw [uc] at he ⊢
    obtain ⟨z,h3,h4⟩:=he
    exact ⟨z,ih _ _ h3,h4⟩
   ·cases h
  case Zaj id off len=>
   split at h
   ·rename_i sz af ho
    rw [hs _ _ ho]
    simp only
    split at h
    ·rename_i hle
     rw [if_pos hle]
     rw [uc] at h ⊢
     obtain ⟨r,h1,h2⟩:=h
     exact ⟨r,AQ (fun row ys hrow=>AQ (fun x y hx=>ih x y hx) row ys hrow) _ _ h1,h2⟩
    ·cases h
   ·cases h
  case agg cs=>
   rw [uc] at h ⊢
   obtain ⟨r,h1,h2⟩:=h
   exact ⟨r,AQ (fun x y hx=>ih x y hx) _ _ h1,h2⟩
  case tuple cs=>
   rw [uc] at h ⊢
   obtain ⟨r,h1,h2⟩:=h
   exact ⟨r,AQ (fun x y hx=>ih x y hx) _ _ h1,h2⟩
theorem Jf {h0 h:Nat→Option aD} (hs:∀ i o,h0 i=some o→h i=some o) {d:Nat}:∀ {args:List AV} {dx:List IV},aI (zC h0 d) args=some dx→aI (zC h d) args=some dx
 | [],dx,h=>h
 | a::l,dx,h=>by
  simp only [aI] at h ⊢
  split at h
  ·rename_i b hb
   split at h
   ·rename_i bs rT
    cases h
    rw [On hs d _ _ hb]
    simp only
    rw [Jf hs rT]
   ·cases h
  ·cases h
theorem Jg {heap:List (Nat×aD)} {l:List Nat} {bU:List (Nat×aD)} (h:xy heap l=some bU) (i:Nat) (o:aD) (ho:za bU i=some o):za heap i=some o:=yY h _ (jo ho)
theorem dz.AR {C:Ctx} {f d:Nat} {args:List AV} {heap bU:List (Nat×aD)} {l:List Nat} {dx:List IV} {r:IV} (hp:aJ C f dx r) (ho:xy heap l=some bU) (hl:∀ p∈bU,p.1∈l) (hx:aI (zC (za bU) d) args=some dx) (hf:xL r=true):dz C f args (za heap) l (.ap r) [] []:=by
 refine ⟨hp.1,fun g h N w vs hag hex R hv => ?_⟩
 have hsub:∀ i o,za bU i=some o→h i=some o:=fun i o hi=>by
  rw [hag i (hl _ (jo hi))];exact Jg ho i o hi
 have hx':aI (zC h d) args=some dx:=Jf hsub hx
 exact (dz.oe (h0:=h) hp hx' hf).2 g h N w vs (fun _ _=>rfl) hex R hv
theorem KX {heap:List (Nat×aD)}:∀ {l:List Nat} {bU:List (Nat×aD)},xy heap l=some bU→∀ p∈bU,p.1∈l
 | [],bU,h=>by cases h;intro p hp;cases hp
 | i::l,bU,h=>by
  simp only [xy] at h
  split at h
  ·cases h
  ·rename_i o ho
   split at h
   ·rename_i r hr
    cases h
    intro p hp
    rcases ue.1 hp with rfl | hp
    ·simp
    ·exact uh _ (KX hr p hp)
   ·cases h
end Go.Proofs.YtlpmnmbebkdocaaGreatDoor
