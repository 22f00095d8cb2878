/-
  The abstract machine: calls in regions that draw their order, and such regions as a demand that can be worked off.
  The abstract machine: code as a demand that simp can work off: what is decided is run; what is not stands still.
  The abstract machine: counted loops, and small facts about numbers.
  The abstract machine: loops whose states are told by the slots that turn; lists.
  Denotations: small facts that printed proofs use.
  Denotations: rows of cells; what the printed proofs use.
  The abstract machine: a contract over a small heap serves in every heap that holds such objects under other names.
  Calls by contracts over small heaps.
-/
import Derived.Test.YtcmmhbmgpflmeaaGreatDoorTD03
open List renaming mem_of_getElem? → ua, getElem?_map → ub, all_eq_true → ud, mem_cons → ue, getElem?_eq_some_iff → uf, mem_cons_of_mem → ug, mem_flatMap → uj, getD_cons_succ → ul, map_congr_left → um, mem_map → un, flatMap_eq_nil_iff → ur, mem_append_right → uv, mem_append_left → uw, getD_cons_zero → ux, map_map → uA, range' → uB
open Option renaming map_eq_some_iff → uc
open Bool renaming and_eq_true → uk, not_eq_true' → uz, or_eq_true → uC
open Nat renaming lt_or_ge → uh, le_refl → ui, lt_of_lt_of_le → uo, not_lt → uq, le_max_right → ut, le_max_left → uu, pos_of_ne_zero → uy, blt → uD
namespace Go.Proofs.YtcmmhbmgpflmeaaGreatDoor
open Go.RowKit
set_option linter.unusedSimpArgs false
set_option linter.unusedVariables false
section
theorem xg {α β:Type} {f f':α→Option β}:∀ {l:List α},(∀ x∈l,f' x=f x)→aY f' l=aY f l
 | [],_=>rfl
 | a::r,h=>by
  simp only [aY]
  rw [h a List.mem_cons_self,xg (l:=r) fun x hx=>h x (ug _ hx)]
def jw (h:Nat→Option aI):Nat→AV→List Nat
 | 0,_=>[]
 | d+1,x=>match x with
  | .agg cs=>cs.flatMap (jw h d)
  | .tuple cs=>cs.flatMap (jw h d)
  | .Zag id off len=>id::match h id with
   | some (.af _ af)=>((af.drop off).take len).flatMap fun row=>row.flatMap (jw h d)
   | _=>[]
  | .map id=>id::match h id with
   | some (.map es)=>es.flatMap fun e=>jw h d e.2
   | _=>[]
  | _=>[]
theorem W4 {h h':Nat→Option aI}:∀ (d:Nat) (x:AV),(∀ i∈jw h d x,h' i=h i)→zJ h' d x=zJ h d x:=by
 intro d
 induction d with
 | zero=>intro x _;rfl
 | succ d ih=>
  intro x hi
  cases x with
  | agg cs=>
   simp only [zJ]
   rw [xg fun c hc=>ih c fun i hm=>hi i (by simp only [jw,uj];exact ⟨c,hc,hm⟩)]
  | tuple cs=>
   simp only [zJ]
   rw [xg fun c hc=>ih c fun i hm=>hi i (by simp only [jw,uj];exact ⟨c,hc,hm⟩)]
  | Zag id off len=>
   simp only [zJ]
   rw [hi id (by simp [jw])]
   split
   ·rename_i sz af ho
    split
    ·rw [xg fun row hrow=>xg fun c hc=>ih c fun i hm=>hi i (by
      simp only [jw,ho,ue,uj]
      exact .inr ⟨row,hrow,c,hc,hm⟩)]
    ·rfl
   ·rfl
  | map id=>
   simp only [zJ]
   rw [hi id (by simp [jw])]
   split
   ·rename_i es ho
    rw [xg fun e he=>by rw [ih e.2 fun i hm=>hi i (by
     simp only [jw,ho,ue,uj]
     exact .inr ⟨e,he,hm⟩)]]
   ·rfl
  | _=>rfl
theorem Ni {h:Nat→Option aI}:∀ (d:Nat) (x:AV),xr d x=true→jw h d x=[]:=by
 intro d
 induction d with
 | zero=>intro x _;rfl
 | succ d ih=>
  intro x hx
  cases x with
  | agg cs=>
   simp only [xr,ud] at hx
   simp only [jw,ur]
   exact fun c hc=>ih c (hx c hc)
  | tuple cs=>
   simp only [xr,ud] at hx
   simp only [jw,ur]
   exact fun c hc=>ih c (hx c hc)
  | Zag id off len=>simp [xr] at hx
  | map id=>simp [xr] at hx
  | _=>rfl
section
variable {C:Ctx} {nt:Fr} {f:Nat} {args:List AV} {h0:Nat→Option aI} {d:Nat} {dH:List IV} {r:IV}
theorem dJ.pure (hp:aO C f dH r) (hm:(args.all (xr d))=true) (hx:aY (zJ h0 d) args=some dH):dJ C f args h0 [] (.ak r) [] []:=by
 refine ⟨hp.1,fun g h N w vs _ _ R hv => ?_⟩
 rw [Jz]
 have hx':aY (zJ h d) args=some dH:=by
  rw [xg fun x Ae=>W4 (h:=h0) d x fun i hi => ?_]
  ·exact hx
  ·rw [Ni d x (ud.1 hm x Ae)] at hi;cases hi
 obtain ⟨h1,h2⟩:=qm hx'
 refine (hp.2 g.Z w vs R.ed ⟨R.fix.1,R.fix.2.1⟩ ⟨by rw [h1];exact hv.1,fun j c u hc hu => ?_⟩).mono ?_
 ·have hlt:j < args.length:=by rw [←h1];exact (uf.1 hc).1
  obtain ⟨c',h3,h4⟩:=h2 j args[j] (by simp)
  rw [hc] at h3
  cases h3
  exact F9 d _ _ _ (ud.1 hm _ (List.getElem_mem hlt)) h4 (hv.2 j args[j] u (by simp) hu)
 ·rintro e w' ⟨v,Z',rfl,hr,hZ,hlt,hB⟩
  exact ⟨v,⟨g.ρ,Z'⟩,rfl,wc R hB hZ,kX R hB hZ hlt,.ak _ _ hr⟩
theorem dJ.ow (hp:aO C f dH r) (hx:aY (zJ h0 d) args=some dH) (hf:xQ r=true):dJ C f args h0 (args.flatMap (jw h0 d)) (.ak r) [] []:=by
 refine ⟨hp.1,fun g h N w vs hag _ R hv => ?_⟩
 rw [Jz]
 have hx':aY (zJ h d) args=some dH:=by
  rw [xg fun x Ae=>W4 (h:=h0) d x fun i hi=>hag i (uj.2 ⟨x,Ae,hi⟩)]
  exact hx
 obtain ⟨h1,h2⟩:=qm hx'
 let Z1:Nat→Nat:=fun b=>match w.heap[b]? with
  | some (.cells c _ _)=>max (g.Z b) c.size
  | some (.map _ _)=>max (g.Z b) 1
  | _=>g.Z b
 have iH:∀ b,g.Z b≤Z1 b:=fun b=>by
  show g.Z b≤(match w.heap[b]? with | some (.cells c _ _)=>max (g.Z b) c.size | some (.map _ _)=>max (g.Z b) 1 | _=>g.Z b)
  split
  ·exact uu _ _
  ·exact uu _ _
  ·exact ui _
 have sM:∀ b,0 < Z1 b→b < w.heap.size:=fun b hb=>by
  rcases uh b w.heap.size with h | h
  ·exact h
  ·have hn:w.heap[b]?=none:=Array.getElem?_eq_none h
   have:Z1 b=g.Z b:=by show (match w.heap[b]? with | some (.cells c _ _)=>max (g.Z b) c.size | some (.map _ _)=>max (g.Z b) 1 | _=>g.Z b)=g.Z b;rw [hn]
   exact R.ed b (by omega)
 have hO:∀ i b sz af,g.ρ i=some b→h i=some (.af sz af)→af.length*sz≤Z1 b:=fun i b sz af hb ho=>by
  obtain ⟨hz,c,e,hc,hlen,hcells⟩:=R.obj i b _ hb ho
  have hZ:Z1 b=max (g.Z b) c.size:=by show (match w.heap[b]? with | some (.cells c _ _)=>max (g.Z b) c.size | some (.map _ _)=>max (g.Z b) 1 | _=>g.Z b)=_;rw [hc]
  rw [hZ]
  refine Nat.le_trans ?_ (ut _ _)
  rcases Nat.eq_zero_or_pos (af.length*sz) with h0 | h0
  ·omega
  ·have hs:0 < sz:=uy fun e=>by subst e;simp at h0
   have hr:0 < af.length:=uy fun e=>by rw [e] at h0;simp at h0
   have hrow:af[af.length - 1]?=some (af[af.length - 1]'(by omega)):=by simp
   have hl:=hlen _ _ hrow
   obtain ⟨cv,h3,_⟩:=hcells (af.length - 1) _ (sz - 1) ((af[af.length - 1]'(by omega))[sz - 1]'(by omega)) hrow (by simp)
   have hlt:=(Array.getElem?_eq_some_iff.1 h3).1
   have:(af.length - 1)*sz+sz=af.length*sz:=by
    rw [←Nat.succ_mul];congr 1;omega
   omega
 have hM:∀ i b es,g.ρ i=some b→h i=some (.map es)→0 < Z1 b:=fun i b es hb ho=>by
  obtain ⟨hz,cG,clock,hw,_⟩:=R.obj i b _ hb ho
  have hZ:Z1 b=max (g.Z b) 1:=by show (match w.heap[b]? with | some (.cells c _ _)=>max (g.Z b) c.size | some (.map _ _)=>max (g.Z b) 1 | _=>g.Z b)=_;rw [hw]
  rw [hZ]
  exact uo Nat.zero_lt_one (ut _ _)
 refine (hp.2 Z1 w vs sM ⟨R.fix.1,R.fix.2.1⟩ ⟨by rw [h1];exact hv.1,fun j c u hc hu => ?_⟩).mono ?_
 ·have hlt:j < args.length:=by rw [←h1];exact (uf.1 hc).1
  obtain ⟨c',h3,h4⟩:=h2 j args[j] (by simp)
  rw [hc] at h3
  cases h3
  exact V9 R Z1 iH hO hM d _ _ _ h4 (hv.2 j args[j] u (by simp) hu)
 ·rintro e w' ⟨v,Z',rfl,hr,hZ,hlt,hB⟩
  exact ⟨v,g,rfl,wc (Z':=g.Z) R hB (fun _ _=>rfl),kX (Z':=g.Z) R hB (fun _ _=>rfl) (fun b hb=>uo (R.ed b hb) hB.size),.ak _ _ (Ga hf hr)⟩
end
def gD (C:Ctx) (f:Nat) (args:List AV) (heap:List (Nat×aI)) (KD:List Nat→AV→List (Nat×aI)→Prop):Prop:=∃ rd r aQ,dJ C f args (zc heap) rd r aQ []∧KD rd r aQ
theorem gD.pure {C:Ctx} {f:Nat} {args:List AV} {heap:List (Nat×aI)} {d:Nat} {dH:List IV} {r:IV} {KD:List Nat→AV→List (Nat×aI)→Prop} (hp:aO C f dH r) (hm:(args.all (xr d))=true) (hx:aY (zJ (zc heap) d) args=some dH)
 (hK:KD [] (.ak r) []):gD C f args heap KD:=⟨_,_,_,dJ.pure hp hm hx,hK⟩
theorem gD.ow {C:Ctx} {f:Nat} {args:List AV} {heap:List (Nat×aI)} {d:Nat} {dH:List IV} {r:IV} {KD:List Nat→AV→List (Nat×aI)→Prop} (hp:aO C f dH r) (hx:aY (zJ (zc heap) d) args=some dH) (hf:xQ r=true)
 (hK:KD (args.flatMap (jw (zc heap) d)) (.ak r) []):gD C f args heap KD:=⟨_,_,_,dJ.ow hp hx hf,hK⟩
def jx (ord:List Nat) (j:Nat) (W R:List (Nat×Nat)) (us rd:List Nat):Bool:=
 (W.all fun p=>!(us.contains p.2||rd.contains p.2)||dV ord p.1 j)&&us.all fun x=>R.all fun p=>!(p.2 == x)||dV ord p.1 j
def qD (j:Nat) (l:List Nat) (W:List (Nat×Nat)):List (Nat×Nat):=l.map (fun x=>(j,x))++W
def oz (ord:List Nat) (j:Nat) (W R:List (Nat×Nat)) (dst:Option Nat) (st:St) (next:Nat→List (Nat×Nat)→List (Nat×Nat)→St→Prop):List Nat→AV→List (Nat×aI)→Prop:=
 fun rd r aQ=>jx ord j W R (zQ aQ) rd=true∧next (j+1) (qD j (zQ aQ) W) (qD j rd R) (st.after dst r aQ)
def B6 (dst:Option Nat) (st:St) (next:St→Prop):List Nat→AV→List (Nat×aI)→Prop:=fun rd r aQ=>aQ=[]∧next (st.after dst r [])
def qB (KD:List Nat→AV→List (Nat×aI)→Prop) (rd:List Nat):Option (AV×List (Nat×aI))→Prop
 | some (r,aQ)=>KD rd r aQ
 | none=>False
def B7 (C:Ctx) (KD:List Nat→AV→List (Nat×aI)→Prop) (heap:List (Nat×aI)) (args:List AV):AV→Prop
 | .func f first bC=>gD C f (first++args++bC) heap KD
 | _=>False
def ei (C:Ctx) (KD:List Nat→AV→List (Nat×aI)→Prop) (st:St):dc→Prop
 | .call f args=>B7 C KD st.heap (args.map (zd st.env)) (zd st.env f)
 | op=>qB KD (zq op (zd st.env)) (ap op (zd st.env) (zc st.heap) st.next)
def dG (C:Ctx) (op:dc) (KD:List Nat→AV→List (Nat×aI)→Prop) (st:St):Bool→Prop
 | true=>ei C KD st op
 | false=>KD [] .undef []
def sR (C:Ctx) (op:dc) (KD:List Nat→AV→List (Nat×aI)→Prop) (st:St) (want:Bool):AV→Prop
 | .ak (.bool b)=>dG C op KD st (b == want)
 | .undef=>dG C op KD st false
 | _=>False
def rJ (C:Ctx) (it:bh) (KD:List Nat→AV→List (Nat×aI)→Prop) (st:St):Prop:=match it.guard with
 | none=>ei C KD st it.op
 | some (t,want)=>sR C it.op KD st want ((zc st.env t).getD .top)
def nK (C:Ctx) (ord:List Nat) (K:St→Prop):List bh→Nat→List (Nat×Nat)→List (Nat×Nat)→St→Prop
 | [],_,_,_,st=>K st
 | it::rest,j,W,R,st=>rJ C it (oz ord j W R it.dst st (nK C ord K rest)) st
def rK (C:Ctx) (K:St→Prop):List bh→St→Prop
 | [],st=>K st
 | it::rest,st=>rJ C it (B6 it.dst st (rK C K rest)) st
section
variable {C:Ctx} {nt:Fr}
theorem Ge {it:bh} {KD:List Nat→AV→List (Nat×aI)→Prop} {st:St} (h:rJ C it KD st):∃ rc:Rec,rc.dst=it.dst∧nw C it st rc∧KD rc.rd rc.r rc.aQ∧rc.ex=[]:=by
 have op:∀ {g},qc st.env it.guard=some true→g=it.guard→ei C KD st it.op→∃ rc:Rec,rc.dst=it.dst∧nw C it st rc∧KD rc.rd rc.r rc.aQ∧rc.ex=[]:=fun hg _ ho=>by
  obtain ⟨dst,op,gd⟩:=it
  simp only at ho hg
  cases op
  case call f args=>
   simp only [ei,B7] at ho
   split at ho
   ·rename_i f' first bC hf
    obtain ⟨rd,r,aQ,hl,hk⟩:=ho
    refine ⟨⟨dst,r,aQ,rd,[]⟩,rfl,?_,hk,rfl⟩
    simp only [nw,hg,hf]
    exact hl
   ·exact ho.elim
  all_goals
   simp only [ei,qB] at ho
   split at ho
   ·rename_i r aQ iD
    refine ⟨⟨dst,r,aQ,_,[]⟩,rfl,?_,ho,rfl⟩
    simp only [nw,hg]
    exact ⟨iD,rfl,trivial⟩
   ·exact ho.elim
 have off:qc st.env it.guard=some false→KD [] .undef []→∃ rc:Rec,rc.dst=it.dst∧nw C it st rc∧KD rc.rd rc.r rc.aQ∧rc.ex=[]:=fun hg ho=>by
  refine ⟨⟨it.dst,.undef,[],[],[]⟩,rfl,?_,ho,rfl⟩
  simp only [nw,hg,and_self]
 unfold rJ at h
 split at h
 ·rename_i hg;exact op (by rw [hg];rfl) hg.symm h
 ·rename_i t want hg
  unfold sR at h
  split at h
  ·rename_i b hb
   cases mO:(b == want) with
   | true=>rw [mO] at h;exact op (by rw [hg];simp only [qc,hb,mO]) hg.symm h
   | false=>rw [mO] at h;exact off (by rw [hg];simp only [qc,hb,mO]) h
  ·rename_i hb;exact off (by rw [hg];simp only [qc,hb]) h
  ·exact h.elim
theorem Wo {ord:List Nat} {recs:List Rec} (h:∀ (i j:Nat) (ri rj:Rec),recs[i]?=some ri→recs[j]?=some rj→i < j→j9 ri rj=true→dV ord i j=true):Qu ord recs=true:=by
 unfold Qu
 refine ud.2 fun j hj => ?_
 split
 ·rename_i rj gh
  refine Bool.or_eq_true_iff.2 (.inr (ud.2 fun i hi => ?_))
  simp at hi
  split
  ·rename_i ri gT
   cases hc:j9 ri rj with
   | true=>simp [h i j ri rj gT gh hi hc]
   | false=>simp
  ·rfl
 ·rfl
theorem Gf {ord:List Nat} {K:St→Prop}:∀ (items:List bh) (W R:List (Nat×Nat)) (st:St) (pre:List Rec),nK C ord K items pre.length W R st →
  (∀ (i:Nat) (ri:Rec) (x:Nat),pre[i]?=some ri→x∈zQ ri.aQ→(i,x)∈W)→(∀ (i:Nat) (ri:Rec) (x:Nat),pre[i]?=some ri→x∈ri.rd→(i,x)∈R) →
  (∀ (i j:Nat) (ri rj:Rec),pre[i]?=some ri→pre[j]?=some rj→i < j→j9 ri rj=true→dV ord i j=true) →
  ∃ recs bF,ZM C items st recs bF∧(∀ (i j:Nat) (ri rj:Rec),(pre++recs)[i]?=some ri→(pre++recs)[j]?=some rj→i < j→j9 ri rj=true→dV ord i j=true)∧K bF∧∀ rc∈recs,rc.ex=[]
 | [],W,R,st,pre,h,hW,hR,hp=>⟨[],st,rfl,by simpa using hp,h,by simp⟩
 | it::rest,W,R,st,pre,h,hW,hR,hp=>by
  obtain ⟨rc,h1,h2,⟨hok,h3⟩,hx0⟩:=Ge h
  have hlen:(pre++[rc]).length=pre.length+1:=by simp
  have split:∀ (i:Nat) (ri:Rec),(pre++[rc])[i]?=some ri→pre[i]?=some ri∨(i=pre.length∧ri=rc):=fun i ri hi=>by
   rw [List.getElem?_append] at hi
   split at hi
   ·exact .inl hi
   ·rename_i hge
    rcases Nat.eq_or_lt_of_le (Nat.le_of_not_lt hge) with e | e
    ·rw [←e] at hi;simp at hi;exact .inr ⟨e.symm,hi.symm⟩
    ·have:i - pre.length≠0:=by omega
     obtain ⟨m,hm⟩:=Nat.exists_eq_succ_of_ne_zero this
     rw [hm] at hi;simp at hi
  obtain ⟨recs,bF,h4,h5,h6,hx1⟩:=Gf rest (qD pre.length (zQ rc.aQ) W) (qD pre.length rc.rd R) (st.after it.dst rc.r rc.aQ) (pre++[rc]) (by rw [hlen];exact h3)
   (fun i ri x hi hx=>by
    rcases split i ri hi with hi | ⟨rfl,rfl⟩
    ·exact uv _ (hW i ri x hi hx)
    ·exact uw _ (un.2 ⟨x,hx,rfl⟩))
   (fun i ri x hi hx=>by
    rcases split i ri hi with hi | ⟨rfl,rfl⟩
    ·exact uv _ (hR i ri x hi hx)
    ·exact uw _ (un.2 ⟨x,hx,rfl⟩))
   (fun i j ri rj hi hj hlt hc=>by
    rcases split j rj hj with hj | ⟨rfl,rfl⟩
    ·rcases split i ri hi with hi | ⟨rfl,rfl⟩
     ·exact hp i j ri rj hi hj hlt hc
     ·have:=(uf.1 hj).1;omega
    ·rcases split i ri hi with hi | ⟨rfl,rfl⟩
     ·simp only [jx,uk,ud] at hok
      simp only [j9,uC,List.any_eq_true] at hc
      rcases hc with ⟨x,hx,hc⟩ | ⟨x,hx,hc⟩
      ·have:=hok.1 (i,x) (hW i ri x hi hx)
       simp only [uC,uz,Bool.or_eq_false_iff] at this
       rcases this with ⟨h7,h8⟩ | h7
       ·simp only [h7,h8] at hc;simp at hc
       ·exact h7
      ·have:=hok.2 x hx (i,x) (hR i ri x hi (by simpa using hc))
       simpa using this
     ·omega)
  refine ⟨rc::recs,bF,⟨h1,h2,h4⟩,?_,h6,fun r hr => ?_⟩
  ·simpa using h5
  ·rcases ue.1 hr with rfl | hr
   ·exact hx0
   ·exact hx1 r hr
theorem Gg {K:St→Prop}:∀ (items:List bh) (st:St),rK C K items st→∃ recs bF,ZM C items st recs bF∧(∀ rc∈recs,rc.aQ=[])∧K bF∧∀ rc∈recs,rc.ex=[]
 | [],st,h=>⟨[],st,rfl,by simp,h,by simp⟩
 | it::rest,st,h=>by
  obtain ⟨rc,h1,h2,⟨hu,h3⟩,hx0⟩:=Ge h
  obtain ⟨recs,bF,h4,h5,h6,hx1⟩:=Gg rest _ h3
  refine ⟨rc::recs,bF,⟨h1,h2,by rw [hu];exact h4⟩,fun r hr => ?_,h6,fun r hr => ?_⟩
  ·rcases ue.1 hr with rfl | hr
   ·exact hu
   ·exact h5 r hr
  ·rcases ue.1 hr with rfl | hr
   ·exact hx0
   ·exact hx1 r hr
theorem Gi {n0:Nat} {recs:List Rec} (h:∀ rc∈recs,rc.ex=[]):Yc n0 recs:=by
 constructor
 ·intro k rc i hk hi
  rw [h rc (ua hk)] at hi;cases hi
 ·intro k l rk rl i hk _ hi
  rw [h rk (ua hk)] at hi;cases hi
def Qx (items:List bh):Bool:=items.all fun it=>match it.op with
 | .alloc _ _ | .box _ _ | .dy _ _ _ _ | .store _ _ _ | .fD | .upd _ _ _ _ | .mks _ _ _ _ | .app _ _ _ _ | .copy _ _ _=>false
 | _=>true
theorem Gj {C:bY} {ord:List Nat} {items:List bh} {ks:Option (List Nat)} {K:Exit→St→Prop} {st:St} (h:nK C ord (fun bF=>K .normal (bF.keep ks)) items 0 [] [] st):dF C nt (.region true ord items ks) K st:=by
 obtain ⟨recs,bF,h1,h2,h3,h4⟩:=Gf (ord:=ord) items [] [] st [] h (by simp) (by simp) (by simp)
 exact Wn h1 (Wo (by simpa using h2)) (Gi h4) bF.next (ui _) (fun rc hr i hi=>by rw [h4 rc hr] at hi;cases hi) h3
theorem Nj {C:bY} {ord:List Nat} {items:List bh} {ks:Option (List Nat)} {K:Exit→St→Prop} {st:St} (h:rK C (fun bF=>K .normal (bF.keep ks)) items st):dF C nt (.region true ord items ks) K st:=by
 obtain ⟨recs,bF,h1,h2,h3,h4⟩:=Gg items st h
 refine Wn h1 (Wo fun i j ri rj hi hj hlt hc => ?_) (Gi h4) bF.next (ui _) (fun rc hr i hi=>by rw [h4 rc hr] at hi;cases hi) h3
 simp [j9,zQ,h2 ri (ua hi),h2 rj (ua hj)] at hc
end
end
section
def ZY (dst:Option Nat) (env:List (Nat×AV)) (K:St→Prop):AV→List (Nat×aI)→Nat→Prop:=fun r heap' next'=>K (St.put {env:=env,heap:=heap',next:=next'+1} dst r)
def qh (dst:Option Nat) (K:St→Prop) (st:St):Option (AV×List (Nat×aI))→Prop
 | some (r,aQ)=>K (st.after dst r aQ)
 | none=>False
def W5 (C:bY) (dst:Option Nat) (K:St→Prop) (st:St) (args:List AV):AV→Prop
 | .func f first bC=>bU C f (first++args++bC) st.heap st.next (ZY dst st.env K)
 | .eI l id=>C.Y l id args st.heap st.next (ZY dst st.env K)
 | _=>False
def cw (C:bY) (dst:Option Nat) (K:St→Prop) (st:St):dc→Prop
 | .call f args=>W5 C dst K st (args.map (zd st.env)) (zd st.env f)
 | op=>qh dst K st (ap op (zd st.env) (zc st.heap) st.next)
def Af (C:bY) (dst:Option Nat) (op:dc) (K:St→Prop) (st:St):Bool→Prop
 | true=>cw C dst K st op
 | false=>K (st.after dst .undef [])
def JB (C:bY) (dst:Option Nat) (op:dc) (K:St→Prop) (st:St) (want:Bool):AV→Prop
 | .ak (.bool b)=>Af C dst op K st (b == want)
 | .undef=>Af C dst op K st false
 | _=>False
def JC (C:bY) (it:bh) (K:St→Prop) (st:St):Prop:=match it.guard with
 | none=>cw C it.dst K st it.op
 | some (t,want)=>JB C it.dst it.op K st want ((zc st.env t).getD .top)
theorem Gk (C:bY) (dst:Option Nat) (op:dc) (g:Option (Nat×Bool)) (K:St→Prop) (st:St) (hg:qc st.env g=some true):vJ C ⟨dst,op,g⟩ st K=cw C dst K st op:=by
 unfold vJ
 rw [hg]
 cases op
 case call f args=>
  simp only [cw]
  cases zd st.env f<;>rfl
 all_goals
  simp only [cw]
  generalize ap _ _ _ _=r
  rcases r with _ | ⟨r,aQ⟩<;>rfl
theorem Nk (C:bY) (it:bh) (K:St→Prop) (st:St) (h:JC C it K st):vJ C it st K:=by
 obtain ⟨dst,op,g⟩:=it
 unfold JC at h
 split at h
 ·rename_i hg
  simp only at hg
  subst hg
  rw [Gk C dst op none K st rfl]
  exact h
 ·rename_i t want hg
  simp only at hg
  subst hg
  unfold JB at h
  split at h
  ·rename_i b hb
   cases mO:(b == want) with
   | true=>
    rw [mO] at h
    rw [Gk C dst op _ K st (by simp only [qc,hb,mO])]
    exact h
   | false=>
    rw [mO] at h
    unfold vJ
    simp only [qc,hb,mO]
    exact h
  ·rename_i hb
   unfold vJ
   simp only [qc,hb]
   exact h
  ·exact h.elim
def oA (C:bY):List bh→(St→Prop)→St→Prop
 | [],K,st=>K st
 | it::rest,K,st=>JC C it (oA C rest K) st
theorem kI (C:bY):∀ (l:List bh) (K:St→Prop) (st:St),oA C l K st→AO C l K st
 | [],K,st,h=>h
 | it::rest,K,st,h=>by
  have:oA C rest K=oA C rest K:=rfl
  have h1:=Nk C it _ st h
  simp only [AO]
  unfold vJ at h1 ⊢
  split
  ·rename_i hg;rw [hg] at h1;exact kI C rest K _ h1
  ·rename_i hg
   rw [hg] at h1
   simp only at h1
   split
   ·rename_i f args hop
    rw [hop] at h1
    simp only at h1
    split
    ·rename_i hf
     rw [hf] at h1
     exact bU.mono (fun r h n hk=>kI C rest K _ hk) h1
    ·rename_i l id hf
     rw [hf] at h1
     exact C.ol _ _ _ _ _ _ _ (fun r h n hk=>kI C rest K _ hk) h1
    ·rename_i hf Dv
     split at h1
     ·rename_i f' first bC Dw;exact absurd Dw (hf _ _ _)
     ·rename_i l id Dw;exact absurd Dw (Dv _ _)
     ·exact h1
   ·rename_i hop
    split at h1
    ·rename_i f args h3;exact absurd h3 (hop _ _)
    ·split
     ·rename_i r aQ iD;rw [iD] at h1;exact kI C rest K _ h1
     ·rename_i iD;rw [iD] at h1;exact h1
  ·rename_i hg;rw [hg] at h1;exact h1
def A0 (b:AV) (x y:St→Prop) (st:St):Prop:=match b with
 | .ak (.bool true)=>x st
 | .ak (.bool false)=>y st
 | _=>False
def Qy (ks:Option (List Nat)) (K:Exit→St→Prop):St→Prop:=fun st=>K .normal (st.keep ks)
def Ag (C:bY) (b:Bool) (ord:List Nat) (items:List bh) (K:St→Prop) (st:St):Prop:=match b with
 | true=>rK C K items st
 | false=>nK C ord K items 0 [] [] st
def gK (C:bY) (nt:Fr):cH→(Exit→St→Prop)→St→Prop
 | .skip,K,st=>K .normal st
 | .region false _ items ks,K,st=>oA C items (Qy ks K) st
 | .region true ord items ks,K,st=>Ag C (Qx items) ord items (Qy ks K) st
 | .seq x y,K,st=>gK C nt x (kW (gK C nt y K) K) st
 | .cond c x y,K,st=>A0 (zd st.env c) (gK C nt x K) (gK C nt y K) st
 | .block id x,K,st=>gK C nt x (vi id K) st
 | .loop x,K,st=>dF C nt (.loop x) K st
 | .scope x,K,st=>C.ro=none∧gK C nt x (ZX K) st
 | .range f ps x y,K,st=>dF C nt (.range f ps x y) K st
 | .exit id,K,st=>K (.exit id) st
 | .ret,K,st=>K .ret st
theorem vk {C:bY} {nt:Fr}:∀ {c:cH} {K:Exit→St→Prop} {st:St},gK C nt c K st→dF C nt c K st
 | .skip,K,st,h=>F0 h
 | .region false _ items ks,K,st,h=>WX (kI C items _ st h)
 | .region true ord items ks,K,st,h=>by
  simp only [gK,Ag] at h
  split at h
  ·exact Nj h
  ·exact Gj h
 | .seq x y,K,st,h=>by
  have h1:dF C nt x (kW (gK C nt y K) K) st:=vk (c:=x) h
  refine F4 (jY (fun e bF hk => ?_) h1)
  cases e with
  | normal=>exact vk (c:=y) hk
  | _=>exact hk
 | .cond c x y,K,st,h=>by
  simp only [gK,A0] at h
  split at h
  ·rename_i hb;exact yc true hb (fun _=>vk h) (fun h=>by cases h)
  ·rename_i hb;exact yc false hb (fun h=>by cases h) (fun _=>vk h)
  ·exact h.elim
 | .block id x,K,st,h=>Y5 (vk (c:=x) h)
 | .loop x,K,st,h=>h
 | .scope x,K,st,h=>Y6 h.1 (vk (c:=x) h.2)
 | .range f ps x y,K,st,h=>h
 | .exit id,K,st,h=>F5 h
 | .ret,K,st,h=>F6 h
section
variable {C:bY} {nt:Fr} {env:List (Nat×AV)} {heap:List (Nat×aI)} {next:Nat} {dst:Option Nat} {K:St→Prop} {KE:Exit→St→Prop} {st:St}
@[simp] theorem znc:gK C nt .skip KE st=KE .normal st:=rfl
@[simp] theorem zlf (o:List Nat) (items:List bh) (ks:Option (List Nat)):gK C nt (.region false o items ks) KE st=oA C items (Qy ks KE) st:=rfl
@[simp] theorem znd (o:List Nat) (items:List bh) (ks:Option (List Nat)):gK C nt (.region true o items ks) KE st=Ag C (Qx items) o items (Qy ks KE) st:=rfl
@[simp] theorem zne (o:List Nat) (items:List bh):Ag C true o items K st=rK C K items st:=rfl
@[simp] theorem zmw (o:List Nat) (items:List bh):Ag C false o items K st=nK C o K items 0 [] [] st:=rfl
@[simp] theorem znY (x y:cH):gK C nt (.seq x y) KE st=gK C nt x (kW (gK C nt y KE) KE) st:=rfl
@[simp] theorem znf (c:bD) (x y:cH):gK C nt (.cond c x y) KE st=A0 (zd st.env c) (gK C nt x KE) (gK C nt y KE) st:=rfl
@[simp] theorem zmx (id:Nat) (x:cH):gK C nt (.block id x) KE st=gK C nt x (vi id KE) st:=rfl
@[simp] theorem zng (id:Nat):gK C nt (.exit id) KE st=KE (.exit id) st:=rfl
@[simp] theorem znZ:gK C nt .ret KE st=KE .ret st:=rfl
@[simp] theorem znh (x y:St→Prop):A0 (.ak (.bool true)) x y st=x st:=rfl
@[simp] theorem zmy (x y:St→Prop):A0 (.ak (.bool false)) x y st=y st:=rfl
@[simp] theorem zk6 (n:St→Prop):kW n KE .normal st=n st:=rfl
@[simp] theorem zmz (n:St→Prop) (id:Nat):kW n KE (.exit id) st=KE (.exit id) st:=rfl
@[simp] theorem zni (n:St→Prop):kW n KE .ret st=KE .ret st:=rfl
@[simp] theorem zio (id:Nat):vi id KE .normal st=KE .normal st:=rfl
@[simp] theorem zk7 (id:Nat):vi id KE .ret st=KE .ret st:=rfl
@[simp] theorem zjh (id id':Nat):vi id KE (.exit id') st=if id'=id then KE .normal st else KE (.exit id') st:=rfl
@[simp] theorem ziq:ZX KE .normal st=KE .normal st:=rfl
@[simp] theorem zji (id:Nat):ZX KE (.exit id) st=KE (.exit id) st:=rfl
@[simp] theorem zk8:ZX KE .ret st=KE .ret st:=rfl
@[simp] theorem zmA (ks:List Nat):Qy (some ks) KE ⟨env,heap,next⟩=KE .normal ⟨qg ks env,heap,next⟩:=rfl
@[simp] theorem zmB:Qy none KE st=KE .normal st:=rfl
@[simp] theorem zk9 (ks:List Nat):qg ks []=[]:=rfl
@[simp] theorem zjj (ks:List Nat) (k:Nat) (v:AV) (r:List (Nat×AV)):qg ks ((k,v)::r)=bif ks.contains k then (k,v)::qg ks r else qg ks r:=by
 simp only [qg,List.filter_cons];cases ks.contains k<;>rfl
@[simp] theorem zn0:oA C [] K st=K st:=rfl
@[simp] theorem znj (it:bh) (r:List bh):oA C (it::r) K st=JC C it (oA C r K) st:=rfl
@[simp] theorem zmC (op:dc):JC C ⟨dst,op,none⟩ K st=cw C dst K st op:=rfl
@[simp] theorem zmD (op:dc) (t:Nat) (want:Bool):JC C ⟨dst,op,some (t,want)⟩ K st=JB C dst op K st want ((zc st.env t).getD .top):=rfl
@[simp] theorem zlg (op:dc) (want:Bool):JB C dst op K st want .undef=K (st.after dst .undef []):=rfl
@[simp] theorem zmE (op:dc) (b:Bool):JB C dst op K st true (.ak (.bool b))=Af C dst op K st b:=by simp [JB]
@[simp] theorem zlh (op:dc) (b:Bool):JB C dst op K st false (.ak (.bool b))=Af C dst op K st (!b):=by cases b<;>rfl
@[simp] theorem znk (op:dc):Af C dst op K st true=cw C dst K st op:=rfl
@[simp] theorem zmF (op:dc):Af C dst op K st false=K (st.after dst .undef []):=rfl
@[simp] theorem zli (r:AV) (aQ:List (Nat×aI)):qh dst K st (some (r,aQ))=K (st.after dst r aQ):=rfl
@[simp] theorem zlj:qh dst K st none=False:=rfl
@[simp] theorem zmG (f:bD) (args:List bD):cw C dst K ⟨env,heap,next⟩ (.call f args)=W5 C dst K ⟨env,heap,next⟩ (args.map (zd env)) (zd env f):=rfl
@[simp] theorem zla (args:List AV) (f:Nat) (first bC:List AV):W5 C dst K ⟨env,heap,next⟩ args (.func f first bC)=bU C f (first++args++bC) heap next (ZY dst env K):=rfl
@[simp] theorem zjk (d:Nat) (r:AV) (heap':List (Nat×aI)) (next':Nat):ZY (some d) env K r heap' next'=K ⟨zs env d r,heap',next'+1⟩:=rfl
@[simp] theorem zjl (r:AV) (heap':List (Nat×aI)) (next':Nat):ZY none env K r heap' next'=K ⟨env,heap',next'+1⟩:=rfl
@[simp] theorem zlk (d:Nat) (r:AV) (aQ:List (Nat×aI)):St.after ⟨env,heap,next⟩ (some d) r aQ=⟨zs env d r,zl aQ heap,next+1⟩:=rfl
@[simp] theorem zll (r:AV) (aQ:List (Nat×aI)):St.after ⟨env,heap,next⟩ none r aQ=⟨env,zl aQ heap,next+1⟩:=rfl
@[simp] theorem zjm:zl [] heap=heap:=rfl
@[simp] theorem zjf (k:Nat) (o:aI) (r:List (Nat×aI)):zl ((k,o)::r) heap=qb (zl r heap) k o:=rfl
@[simp] theorem zmH {α:Type} (i:Nat) (v:α):qb [] i v=[(i,v)]:=rfl
@[simp] theorem zlm {α:Type} (k i:Nat) (v u:α) (r:List (Nat×α)):qb ((k,v)::r) i u=if k=i then (i,u)::r else if k=999999 then (i,u)::(k,v)::r else (k,v)::qb r i u:=rfl
@[simp] theorem zmI {α:Type} (i:Nat):zc ([]:List (Nat×α)) i=none:=rfl
@[simp] theorem zln {α:Type} (k i:Nat) (v:α) (r:List (Nat×α)):zc ((k,v)::r) i=if k=i then some v else zc r i:=rfl
@[simp] theorem zmJ {α:Type} (i:Nat) (v:α):zs [] i v=[(i,v)]:=rfl
@[simp] theorem zlo {α:Type} (k i:Nat) (v u:α) (r:List (Nat×α)):zs ((k,v)::r) i u=if k=i then (i,u)::r else (k,v)::zs r i u:=rfl
@[simp] theorem zn1 (n:Nat):zd env (.t n)=(zc env n).getD .top:=rfl
@[simp] theorem zn2 (x:AV):zd env (.c x)=x:=rfl
@[simp] theorem zlp (i:Nat):ju i []=[]:=rfl
@[simp] theorem zlb (i:Nat) (x:AV) (xs:List AV):ju i (x::xs)=(i,x)::ju (i+1) xs:=rfl
@[simp] theorem znl {α β:Type} (f:α→Option β):aY f []=some []:=rfl
@[simp] theorem zmK {α β:Type} (f:α→Option β) (a:α) (r:List α):aY f (a::r)=match f a with
 | some b=>match aY f r with
  | some bs=>some (b::bs)
  | none=>none
 | none=>none:=rfl
def JD (KA:AV→List (Nat×aI)→Nat→Prop) (heap:List (Nat×aI)) (next:Nat):Option AV→Prop
 | some r=>KA r heap next
 | none=>False
def W6 (rs:List dR) (KA:AV→List (Nat×aI)→Nat→Prop):Exit→St→Prop
 | .ret,st | .normal,st=>JD KA st.heap st.next (jI rs st)
 | _,_=>False
theorem bU.run {C:Ctx} {f:Nat} {F:dM} (hF:qM C f=some F.erase) {args:List AV} {KA:AV→List (Nat×aI)→Nat→Prop} (hn:args.length≤F.nt)
 (h:∀ B,gK C.plain ⟨F.nt,B⟩ F.body (W6 F.results KA) {env:=ju 0 args,heap:=heap,next:=next}):bU C f args heap next KA:=bU.enter hF hn (fun B=>jY (fun e st hk=>by
  have key:∀ {o:Option AV},JD KA st.heap st.next o→∃ r,o=some r∧KA r st.heap st.next:=fun {o} ho=>by
   cases o with
   | none=>exact ho.elim
   | some r=>exact ⟨r,rfl,ho⟩
  cases e with
  | ret=>exact ⟨.inl rfl,key hk⟩
  | normal=>exact ⟨.inr rfl,key hk⟩
  | _=>exact hk.elim) (vk (h B)))
def Yd (d:Nat) (r:IV):AV→List (Nat×aI)→Nat→Prop:=fun x heap _=>zJ (zc heap) d x=some r
@[simp] theorem zn3 (d:Nat) (r:IV) (x:AV):Yd d r x heap next=(zJ (zc heap) d x=some r):=rfl
theorem aO.run {C:Ctx} {f:Nat} {F:dM} (hF:qM C f=some F.erase) {args:List IV} {r:IV} (d:Nat) (hn:args.length≤F.nt)
 (h:∀ B,gK C.plain ⟨F.nt,B⟩ F.body (W6 F.results (Yd d r)) {env:=ju 0 (args.map .ak),heap:=[],next:=0}):aO C f args r:=aO.of (d:=d) (bU.run hF (by simpa using hn) h)
variable {KA:AV→List (Nat×aI)→Nat→Prop}
@[simp] theorem zmL (rs:List dR):W6 rs KA .ret ⟨env,heap,next⟩=JD KA heap next (jI rs ⟨env,heap,next⟩):=rfl
@[simp] theorem zjn (rs:List dR):W6 rs KA .normal ⟨env,heap,next⟩=JD KA heap next (jI rs ⟨env,heap,next⟩):=rfl
@[simp] theorem zmM (r:AV):JD KA heap next (some r)=KA r heap next:=rfl
@[simp] theorem zmN:JD KA heap next none=False:=rfl
@[simp] theorem zmO (r:dR):jI [r] st=wF st r:=rfl
@[simp] theorem zmP:jI [] st=some (.tuple []):=rfl
@[simp] theorem zmQ (r s:dR) (l:List dR):jI (r::s::l) st=match aY (wF st) (r::s::l) with
 | some xs=>some (.tuple xs)
 | none=>none:=rfl
@[simp] theorem zlq (t:Nat):wF ⟨env,heap,next⟩ (.tmp t)=zc env t:=rfl
@[simp] theorem zlc (t n:Nat) (ag:Bool):wF ⟨env,heap,next⟩ (.cell t ag n)=match ap (.load ag n (.t t)) (zd env) (zc heap) 0 with
 | some (r,_)=>some r
 | none=>none:=rfl
@[simp] theorem znm (x:bD):cw C dst K ⟨env,heap,next⟩ (.fP x)=qh dst K ⟨env,heap,next⟩ (ap (.fP x) (zd env) (zc heap) next):=rfl
@[simp] theorem zmR (c a b:bD):cw C dst K ⟨env,heap,next⟩ (.pick c a b)=qh dst K ⟨env,heap,next⟩ (ap (.pick c a b) (zd env) (zc heap) next):=rfl
@[simp] theorem zlr (sz:Nat) (af:List (List AV)):cw C dst K ⟨env,heap,next⟩ (.alloc sz af)=qh dst K ⟨env,heap,next⟩ (ap (.alloc sz af) (zd env) (zc heap) next):=rfl
@[simp] theorem znn (sz:Nat) (x:bD):cw C dst K ⟨env,heap,next⟩ (.box sz x)=qh dst K ⟨env,heap,next⟩ (ap (.box sz x) (zd env) (zc heap) next):=rfl
@[simp] theorem zls (zero:List AV) (parts:List (Nat×Nat×bD)):cw C dst K ⟨env,heap,next⟩ (.build zero parts)=qh dst K ⟨env,heap,next⟩ (ap (.build zero parts) (zd env) (zc heap) next):=rfl
@[simp] theorem zld (sz:Nat) (zero:List AV) (len:Nat) (parts:List (Nat×bD)):cw C dst K ⟨env,heap,next⟩ (.dy sz zero len parts)=qh dst K ⟨env,heap,next⟩ (ap (.dy sz zero len parts) (zd env) (zc heap) next):=rfl
@[simp] theorem zmS (agg:Bool) (n:Nat) (x:bD):cw C dst K ⟨env,heap,next⟩ (.load agg n x)=qh dst K ⟨env,heap,next⟩ (ap (.load agg n x) (zd env) (zc heap) next):=rfl
@[simp] theorem zlu (n:Nat) (x v:bD):cw C dst K ⟨env,heap,next⟩ (.store n x v)=qh dst K ⟨env,heap,next⟩ (ap (.store n x v) (zd env) (zc heap) next):=rfl
@[simp] theorem zno (off:Nat) (x:bD):cw C dst K ⟨env,heap,next⟩ (.iW off x)=qh dst K ⟨env,heap,next⟩ (ap (.iW off x) (zd env) (zc heap) next):=rfl
@[simp] theorem znp (sz:Nat) (x i:bD):cw C dst K ⟨env,heap,next⟩ (.idx sz x i)=qh dst K ⟨env,heap,next⟩ (ap (.idx sz x i) (zd env) (zc heap) next):=rfl
@[simp] theorem zmT (len sz:Nat) (x i:bD):cw C dst K ⟨env,heap,next⟩ (.idxa len sz x i)=qh dst K ⟨env,heap,next⟩ (ap (.idxa len sz x i) (zd env) (zc heap) next):=rfl
@[simp] theorem znq (op:BinOp) (x y:bD):cw C dst K ⟨env,heap,next⟩ (.bin op x y)=qh dst K ⟨env,heap,next⟩ (ap (.bin op x y) (zd env) (zc heap) next):=rfl
@[simp] theorem znr (neg:Bool) (x y:bD):cw C dst K ⟨env,heap,next⟩ (.oY neg x y)=qh dst K ⟨env,heap,next⟩ (ap (.oY neg x y) (zd env) (zc heap) next):=rfl
@[simp] theorem zns (neg:Bool) (ks:List Nat) (x y:bD):cw C dst K ⟨env,heap,next⟩ (.eqs neg ks x y)=qh dst K ⟨env,heap,next⟩ (ap (.eqs neg ks x y) (zd env) (zc heap) next):=rfl
@[simp] theorem zlv (neg:Bool) (x y:bD):cw C dst K ⟨env,heap,next⟩ (.fc neg x y)=qh dst K ⟨env,heap,next⟩ (ap (.fc neg x y) (zd env) (zc heap) next):=rfl
@[simp] theorem znt (x:bD):cw C dst K ⟨env,heap,next⟩ (.not x)=qh dst K ⟨env,heap,next⟩ (ap (.not x) (zd env) (zc heap) next):=rfl
@[simp] theorem znu (x:bD):cw C dst K ⟨env,heap,next⟩ (.neg x)=qh dst K ⟨env,heap,next⟩ (ap (.neg x) (zd env) (zc heap) next):=rfl
@[simp] theorem zmU (k:IntKind) (x:bD):cw C dst K ⟨env,heap,next⟩ (.conv k x)=qh dst K ⟨env,heap,next⟩ (ap (.conv k x) (zd env) (zc heap) next):=rfl
@[simp] theorem znv (x:bD):cw C dst K ⟨env,heap,next⟩ (.len x)=qh dst K ⟨env,heap,next⟩ (ap (.len x) (zd env) (zc heap) next):=rfl
@[simp] theorem zmV (x:bD):cw C dst K ⟨env,heap,next⟩ (.lens x)=qh dst K ⟨env,heap,next⟩ (ap (.lens x) (zd env) (zc heap) next):=rfl
@[simp] theorem zmW (x:bD):cw C dst K ⟨env,heap,next⟩ (.iF x)=qh dst K ⟨env,heap,next⟩ (ap (.iF x) (zd env) (zc heap) next):=rfl
@[simp] theorem zn4 (max:Bool) (x y:bD):cw C dst K ⟨env,heap,next⟩ (.mm max x y)=qh dst K ⟨env,heap,next⟩ (ap (.mm max x y) (zd env) (zc heap) next):=rfl
@[simp] theorem znw (sz bI:Nat) (s x:bD):cw C dst K ⟨env,heap,next⟩ (.app sz bI s x)=qh dst K ⟨env,heap,next⟩ (ap (.app sz bI s x) (zd env) (zc heap) next):=rfl
@[simp] theorem znx (x:bD) (i:Nat):cw C dst K ⟨env,heap,next⟩ (.ext x i)=qh dst K ⟨env,heap,next⟩ (ap (.ext x i) (zd env) (zc heap) next):=rfl
@[simp] theorem zny (f:Nat) (first bC:List bD):cw C dst K ⟨env,heap,next⟩ (.pF f first bC)=qh dst K ⟨env,heap,next⟩ (ap (.pF f first bC) (zd env) (zc heap) next):=rfl
@[simp] theorem zlw  : cw C dst K ⟨env,heap,next⟩ (.fD)=qh dst K ⟨env,heap,next⟩ (ap (.fD) (zd env) (zc heap) next):=rfl
@[simp] theorem zmX (str:Bool) (zero:AV) (ok:Bool) (m k:bD):cw C dst K ⟨env,heap,next⟩ (.look str zero ok m k)=qh dst K ⟨env,heap,next⟩ (ap (.look str zero ok m k) (zd env) (zc heap) next):=rfl
@[simp] theorem znz (str:Bool) (m k v:bD):cw C dst K ⟨env,heap,next⟩ (.upd str m k v)=qh dst K ⟨env,heap,next⟩ (ap (.upd str m k v) (zd env) (zc heap) next):=rfl
@[simp] theorem znA (sz bI:Nat) (zero:List AV) (n:bD):cw C dst K ⟨env,heap,next⟩ (.mks sz bI zero n)=qh dst K ⟨env,heap,next⟩ (ap (.mks sz bI zero n) (zd env) (zc heap) next):=rfl
@[simp] theorem znB (sz:Nat) (x:bD) (lo hi:Option bD):cw C dst K ⟨env,heap,next⟩ (.slc sz x lo hi)=qh dst K ⟨env,heap,next⟩ (ap (.slc sz x lo hi) (zd env) (zc heap) next):=rfl
@[simp] theorem zmY (neg:Bool) (x y:bD):cw C dst K ⟨env,heap,next⟩ (.eqnm neg x y)=qh dst K ⟨env,heap,next⟩ (ap (.eqnm neg x y) (zd env) (zc heap) next):=rfl
@[simp] theorem znC (ag:Bool) (off n:Nat) (x:bD):cw C dst K ⟨env,heap,next⟩ (.cut ag off n x)=qh dst K ⟨env,heap,next⟩ (ap (.cut ag off n x) (zd env) (zc heap) next):=rfl
@[simp] theorem znD (x:bD):cw C dst K ⟨env,heap,next⟩ (.mz x)=qh dst K ⟨env,heap,next⟩ (ap (.mz x) (zd env) (zc heap) next):=rfl
@[simp] theorem zmZ (sz:Nat) (d x:bD):cw C dst K ⟨env,heap,next⟩ (.copy sz d x)=qh dst K ⟨env,heap,next⟩ (ap (.copy sz d x) (zd env) (zc heap) next):=rfl
@[simp] theorem znE (len sz:Nat) (x i:bD):cw C dst K ⟨env,heap,next⟩ (.ixa len sz x i)=qh dst K ⟨env,heap,next⟩ (ap (.ixa len sz x i) (zd env) (zc heap) next):=rfl
end
section
variable {C:bY} {nt:Fr} {env:List (Nat×AV)} {heap:List (Nat×aI)} {next:Nat} {dst:Option Nat} {K:St→Prop} {KD:List Nat→AV→List (Nat×aI)→Prop} {st:St}
@[simp] theorem zn5 (ord:List Nat) (j:Nat) (W R:List (Nat×Nat)):nK C ord K [] j W R st=K st:=rfl
@[simp] theorem Nl (ord:List Nat) (it:bh) (r:List bh) (j:Nat) (W R:List (Nat×Nat)):nK C ord K (it::r) j W R st=rJ C it (oz ord j W R it.dst st (nK C ord K r)) st:=rfl
@[simp] theorem zn6:rK C K [] st=K st:=rfl
@[simp] theorem znF (it:bh) (r:List bh):rK C K (it::r) st=rJ C it (B6 it.dst st (rK C K r)) st:=rfl
@[simp] theorem Nn (op:dc):rJ C ⟨dst,op,none⟩ KD st=ei C KD st op:=rfl
@[simp] theorem znG (op:dc) (t:Nat) (want:Bool):rJ C ⟨dst,op,some (t,want)⟩ KD st=sR C op KD st want ((zc st.env t).getD .top):=rfl
@[simp] theorem zm0 (op:dc) (want:Bool):sR C op KD st want .undef=KD [] .undef []:=rfl
@[simp] theorem znH (op:dc) (b:Bool):sR C op KD st true (.ak (.bool b))=dG C op KD st b:=by simp [sR]
@[simp] theorem zm1 (op:dc) (b:Bool):sR C op KD st false (.ak (.bool b))=dG C op KD st (!b):=by cases b<;>rfl
@[simp] theorem zn7 (op:dc):dG C op KD st true=ei C KD st op:=rfl
@[simp] theorem znI (op:dc):dG C op KD st false=KD [] .undef []:=rfl
@[simp] theorem zm2 (rd:List Nat) (r:AV) (aQ:List (Nat×aI)):qB KD rd (some (r,aQ))=KD rd r aQ:=rfl
@[simp] theorem zm3 (rd:List Nat):qB KD rd none=False:=rfl
@[simp] theorem znJ (ord:List Nat) (j:Nat) (W R:List (Nat×Nat)) (nx:Nat→List (Nat×Nat)→List (Nat×Nat)→St→Prop) (rd:List Nat) (r:AV) (aQ:List (Nat×aI)) :
 oz ord j W R dst st nx rd r aQ=(jx ord j W R (zQ aQ) rd=true∧nx (j+1) (qD j (zQ aQ) W) (qD j rd R) (st.after dst r aQ)):=rfl
@[simp] theorem zm4 (nx:St→Prop) (rd:List Nat) (r:AV):B6 dst st nx rd r []=nx (st.after dst r []):=by simp [B6]
@[simp] theorem znK (f:bD) (args:List bD):ei C KD ⟨env,heap,next⟩ (.call f args)=B7 C KD heap (args.map (zd env)) (zd env f):=rfl
@[simp] theorem zlx (args:List AV) (f:Nat) (first bC:List AV):B7 C KD heap args (.func f first bC)=gD C f (first++args++bC) heap KD:=rfl
@[simp] theorem zn8 (x:bD):ei C KD ⟨env,heap,next⟩ (.fP x)=qB KD (zq (.fP x) (zd env)) (ap (.fP x) (zd env) (zc heap) next):=rfl
@[simp] theorem znL (c a b:bD):ei C KD ⟨env,heap,next⟩ (.pick c a b)=qB KD (zq (.pick c a b) (zd env)) (ap (.pick c a b) (zd env) (zc heap) next):=rfl
@[simp] theorem zm5 (sz:Nat) (af:List (List AV)):ei C KD ⟨env,heap,next⟩ (.alloc sz af)=qB KD (zq (.alloc sz af) (zd env)) (ap (.alloc sz af) (zd env) (zc heap) next):=rfl
@[simp] theorem zn9 (sz:Nat) (x:bD):ei C KD ⟨env,heap,next⟩ (.box sz x)=qB KD (zq (.box sz x) (zd env)) (ap (.box sz x) (zd env) (zc heap) next):=rfl
@[simp] theorem zm6 (zero:List AV) (parts:List (Nat×Nat×bD)):ei C KD ⟨env,heap,next⟩ (.build zero parts)=qB KD (zq (.build zero parts) (zd env)) (ap (.build zero parts) (zd env) (zc heap) next):=rfl
@[simp] theorem zly (sz:Nat) (zero:List AV) (len:Nat) (parts:List (Nat×bD)):ei C KD ⟨env,heap,next⟩ (.dy sz zero len parts)=qB KD (zq (.dy sz zero len parts) (zd env)) (ap (.dy sz zero len parts) (zd env) (zc heap) next):=rfl
@[simp] theorem znM (agg:Bool) (n:Nat) (x:bD):ei C KD ⟨env,heap,next⟩ (.load agg n x)=qB KD (zq (.load agg n x) (zd env)) (ap (.load agg n x) (zd env) (zc heap) next):=rfl
@[simp] theorem zm7 (n:Nat) (x v:bD):ei C KD ⟨env,heap,next⟩ (.store n x v)=qB KD (zq (.store n x v) (zd env)) (ap (.store n x v) (zd env) (zc heap) next):=rfl
@[simp] theorem zoa (off:Nat) (x:bD):ei C KD ⟨env,heap,next⟩ (.iW off x)=qB KD (zq (.iW off x) (zd env)) (ap (.iW off x) (zd env) (zc heap) next):=rfl
@[simp] theorem zob (sz:Nat) (x i:bD):ei C KD ⟨env,heap,next⟩ (.idx sz x i)=qB KD (zq (.idx sz x i) (zd env)) (ap (.idx sz x i) (zd env) (zc heap) next):=rfl
@[simp] theorem znN (len sz:Nat) (x i:bD):ei C KD ⟨env,heap,next⟩ (.idxa len sz x i)=qB KD (zq (.idxa len sz x i) (zd env)) (ap (.idxa len sz x i) (zd env) (zc heap) next):=rfl
@[simp] theorem zoc (op:BinOp) (x y:bD):ei C KD ⟨env,heap,next⟩ (.bin op x y)=qB KD (zq (.bin op x y) (zd env)) (ap (.bin op x y) (zd env) (zc heap) next):=rfl
@[simp] theorem zod (neg:Bool) (x y:bD):ei C KD ⟨env,heap,next⟩ (.oY neg x y)=qB KD (zq (.oY neg x y) (zd env)) (ap (.oY neg x y) (zd env) (zc heap) next):=rfl
@[simp] theorem zoe (neg:Bool) (ks:List Nat) (x y:bD):ei C KD ⟨env,heap,next⟩ (.eqs neg ks x y)=qB KD (zq (.eqs neg ks x y) (zd env)) (ap (.eqs neg ks x y) (zd env) (zc heap) next):=rfl
@[simp] theorem zm8 (neg:Bool) (x y:bD):ei C KD ⟨env,heap,next⟩ (.fc neg x y)=qB KD (zq (.fc neg x y) (zd env)) (ap (.fc neg x y) (zd env) (zc heap) next):=rfl
@[simp] theorem zof (x:bD):ei C KD ⟨env,heap,next⟩ (.not x)=qB KD (zq (.not x) (zd env)) (ap (.not x) (zd env) (zc heap) next):=rfl
@[simp] theorem zog (x:bD):ei C KD ⟨env,heap,next⟩ (.neg x)=qB KD (zq (.neg x) (zd env)) (ap (.neg x) (zd env) (zc heap) next):=rfl
@[simp] theorem znO (k:IntKind) (x:bD):ei C KD ⟨env,heap,next⟩ (.conv k x)=qB KD (zq (.conv k x) (zd env)) (ap (.conv k x) (zd env) (zc heap) next):=rfl
@[simp] theorem zoh (x:bD):ei C KD ⟨env,heap,next⟩ (.len x)=qB KD (zq (.len x) (zd env)) (ap (.len x) (zd env) (zc heap) next):=rfl
@[simp] theorem znP (x:bD):ei C KD ⟨env,heap,next⟩ (.lens x)=qB KD (zq (.lens x) (zd env)) (ap (.lens x) (zd env) (zc heap) next):=rfl
@[simp] theorem znQ (x:bD):ei C KD ⟨env,heap,next⟩ (.iF x)=qB KD (zq (.iF x) (zd env)) (ap (.iF x) (zd env) (zc heap) next):=rfl
@[simp] theorem zor (max:Bool) (x y:bD):ei C KD ⟨env,heap,next⟩ (.mm max x y)=qB KD (zq (.mm max x y) (zd env)) (ap (.mm max x y) (zd env) (zc heap) next):=rfl
@[simp] theorem zoi (sz bI:Nat) (s x:bD):ei C KD ⟨env,heap,next⟩ (.app sz bI s x)=qB KD (zq (.app sz bI s x) (zd env)) (ap (.app sz bI s x) (zd env) (zc heap) next):=rfl
@[simp] theorem zoj (x:bD) (i:Nat):ei C KD ⟨env,heap,next⟩ (.ext x i)=qB KD (zq (.ext x i) (zd env)) (ap (.ext x i) (zd env) (zc heap) next):=rfl
@[simp] theorem zok (f:Nat) (first bC:List bD):ei C KD ⟨env,heap,next⟩ (.pF f first bC)=qB KD (zq (.pF f first bC) (zd env)) (ap (.pF f first bC) (zd env) (zc heap) next):=rfl
@[simp] theorem zm9  : ei C KD ⟨env,heap,next⟩ (.fD)=qB KD (zq (.fD) (zd env)) (ap (.fD) (zd env) (zc heap) next):=rfl
@[simp] theorem znR (str:Bool) (zero:AV) (ok:Bool) (m k:bD):ei C KD ⟨env,heap,next⟩ (.look str zero ok m k)=qB KD (zq (.look str zero ok m k) (zd env)) (ap (.look str zero ok m k) (zd env) (zc heap) next):=rfl
@[simp] theorem zol (str:Bool) (m k v:bD):ei C KD ⟨env,heap,next⟩ (.upd str m k v)=qB KD (zq (.upd str m k v) (zd env)) (ap (.upd str m k v) (zd env) (zc heap) next):=rfl
@[simp] theorem zom (sz bI:Nat) (zero:List AV) (n:bD):ei C KD ⟨env,heap,next⟩ (.mks sz bI zero n)=qB KD (zq (.mks sz bI zero n) (zd env)) (ap (.mks sz bI zero n) (zd env) (zc heap) next):=rfl
@[simp] theorem zon (sz:Nat) (x:bD) (lo hi:Option bD):ei C KD ⟨env,heap,next⟩ (.slc sz x lo hi)=qB KD (zq (.slc sz x lo hi) (zd env)) (ap (.slc sz x lo hi) (zd env) (zc heap) next):=rfl
@[simp] theorem znS (neg:Bool) (x y:bD):ei C KD ⟨env,heap,next⟩ (.eqnm neg x y)=qB KD (zq (.eqnm neg x y) (zd env)) (ap (.eqnm neg x y) (zd env) (zc heap) next):=rfl
@[simp] theorem zoo (ag:Bool) (off n:Nat) (x:bD):ei C KD ⟨env,heap,next⟩ (.cut ag off n x)=qB KD (zq (.cut ag off n x) (zd env)) (ap (.cut ag off n x) (zd env) (zc heap) next):=rfl
@[simp] theorem zop (x:bD):ei C KD ⟨env,heap,next⟩ (.mz x)=qB KD (zq (.mz x) (zd env)) (ap (.mz x) (zd env) (zc heap) next):=rfl
@[simp] theorem znT (sz:Nat) (d x:bD):ei C KD ⟨env,heap,next⟩ (.copy sz d x)=qB KD (zq (.copy sz d x) (zd env)) (ap (.copy sz d x) (zd env) (zc heap) next):=rfl
@[simp] theorem zoq (len sz:Nat) (x i:bD):ei C KD ⟨env,heap,next⟩ (.ixa len sz x i)=qB KD (zq (.ixa len sz x i) (zd env)) (ap (.ixa len sz x i) (zd env) (zc heap) next):=rfl
end
end
section
section
variable {C:bY} {nt:Fr} {x:cH} {K:Exit→St→Prop} {st:St}
end
@[simp] theorem zhW {α:Type} {p:α→Prop}:(∀ x∈([]:List α),p x)=True:=by simp
theorem zZ {x:Int} (h1 : -9223372036854775808≤x) (h2:x < 9223372036854775808):IntKind.i64.wrap x=x:=by
 simp [IntKind.wrap,IntKind.bits,IntKind.signed,Int.bmod_def]
 omega
theorem Np {x:Int} (h1:0≤x) (h2:x < 18446744073709551616):IntKind.u64.wrap x=x:=by
 simp [IntKind.wrap,IntKind.bits,IntKind.signed]
 omega
end
section
def W7 {α:Type}:List (Nat×α)→List (Nat×α)→List (Nat×α)
 | [],l=>l
 | (k,v)::r,l=>W7 r (zs l k v)
@[simp] theorem zlz {α:Type} (l:List (Nat×α)):W7 [] l=l:=rfl
@[simp] theorem zle {α:Type} (k:Nat) (v:α) (r l:List (Nat×α)):W7 ((k,v)::r) l=W7 r (zs l k v):=rfl
section
variable {C:bY} {nt:Fr} {x:cH} {K:Exit→St→Prop}
end
end
section
theorem Xw {α β:Type} {x:Option α} {f:α→Option β} {r:β} (h:x.bind f=some r):∃ a,x=some a∧f a=some r:=Option.bind_eq_some_iff.1 h
def zf {α:Type} (l:List α) (n:Int):Option α:=if 0≤n then l[n.toNat]? else none
theorem Y9 {α:Type} {l:List α} {n:Int} {e:α} (h:zf l n=some e):0≤n∧l[n.toNat]?=some e∧n.toNat < l.length∧n < l.length∧∃ h:n.toNat < l.length,l[n.toNat]=e:=by
 unfold zf at h;split at h
 ·obtain ⟨h1,h2⟩:=uf.1 h
  exact ⟨‹_›,h,h1,by omega,h1,h2⟩
 ·cases h
theorem Nq {C:bY} {nt:Fr} {o:List Nat} {items:List bh} {ks:Option (List Nat)} {K:Exit→St→Prop} {st:St} (h:oA C items (Qy ks K) st):dF C nt (.region false o items ks) K st:=
 WX (kI C items _ st h)
theorem Ye {C:bY} {nt:Fr} {o:List Nat} {items:List bh} {ks:Option (List Nat)} {K:Exit→St→Prop} {st:St} (h:Ag C (Qx items) o items (Qy ks K) st):dF C nt (.region true o items ks) K st:=
 vk h
def ck {σ ρ:Type} (f:Nat→σ→Option (σ ⊕ ρ)):Nat→Nat→σ→Option (σ ⊕ ρ)
 | _,0,s=>some (.inl s)
 | i,k+1,s=>match f i s with
  | none=>none
  | some (.inr r)=>some (.inr r)
  | some (.inl s')=>ck f (i+1) k s'
def aG {σ ρ:Type} (n:Int) (f:Nat→σ→Option (σ ⊕ ρ)) (s:σ):Option (σ ⊕ ρ):=bif uD n.toNat 4611686018427387904 then ck f 0 n.toNat s else none
theorem Qz {σ ρ:Type} {n:Int} {f:Nat→σ→Option (σ ⊕ ρ)} {s:σ} (hn:n < 4611686018427387904):aG n f s=ck f 0 n.toNat s:=by
 have:uD n.toNat 4611686018427387904=true:=by simp only [Nat.blt_eq];omega
 unfold aG;rw [this];rfl
theorem Ka {σ ρ:Type} {n:Int} {f:Nat→σ→Option (σ ⊕ ρ)} {s:σ} {o:σ ⊕ ρ} (h:aG n f s=some o):n < 4611686018427387904∧ck f 0 n.toNat s=some o:=by
 unfold aG at h
 cases hb:uD n.toNat 4611686018427387904 with
 | true=>rw [hb] at h;simp only [Nat.blt_eq] at hb;exact ⟨by omega,h⟩
 | false=>rw [hb] at h;cases h
def B8 {σ ρ:Type} (W:σ→St) (K:Exit→St→Prop) (out:σ ⊕ ρ) (o:σ ⊕ ρ):Exit→St→Prop
 | .normal,st=>∃ s',o=.inl s'∧ct st (W s')
 | e,st=>∃ y,o=.inr y∧(out=.inr y→K e st)
theorem Nr {C:bY} {nt:Fr} {x:cH} {K:Exit→St→Prop} {st:St} {σ ρ:Type} {n:Int} {f:Nat→σ→Option (σ ⊕ ρ)} {s0:σ} {out:σ ⊕ ρ} (hl:aG n f s0=some out)
  (E:Nat→σ→List (Nat×AV)) (H:Nat→σ→List (Nat×aI)) (h0:ct st ⟨E 0 s0,H 0 s0,st.next⟩)
  (body:∀ (i:Nat) (s:σ) (o:σ ⊕ ρ),(i:Int) < n→IntKind.i64.wrap ((i:Int)+1)=(i:Int)+1→f i s=some o→dF C nt x (B8 (fun s=>⟨E (i+1) s,H (i+1) s,st.next⟩) K out o) ⟨E i s,H i s,st.next⟩)
  (last:∀ (m:Nat) (s:σ),¬ (m:Int) < n→out=.inl s→dF C nt x (kW (fun _=>False) K) ⟨E m s,H m s,st.next⟩):dF C nt (.loop x) K st:=by
 obtain ⟨hn,hl⟩:=Ka hl
 refine F8 (ι:={p:Nat×σ // p.1≤n.toNat∧ck f p.1 (n.toNat - p.1) p.2=some out}) (fun p=>⟨E p.1.1 p.1.2,H p.1.1 p.1.2,st.next⟩) (fun p=>n.toNat - p.1.1) ⟨(0,s0),Nat.zero_le _,hl⟩ (fun _=>ui _) h0 (ui _) ?_
 rintro ⟨⟨i,s⟩,hi,hf⟩
 simp only at hi hf
 rcases uh i n.toNat with h | h
 ·obtain ⟨k,hk⟩:∃ k,n.toNat - i=k+1:=⟨n.toNat - i - 1,by omega⟩
  rw [hk] at hf
  simp only [ck] at hf
  split at hf
  ·cases hf
  ·rename_i r hr
   cases hf
   refine jY ?_ (body i s _ (by omega) (zZ (by omega) (by omega)) hr)
   intro e bF hK
   cases e with
   | normal=>obtain ⟨s',h1,_⟩:=hK;cases h1
   | _=>obtain ⟨y,h1,h2⟩:=hK;cases h1;exact h2 rfl
  ·rename_i s' hr
   refine jY ?_ (body i s _ (by omega) (zZ (by omega) (by omega)) hr)
   intro e bF hK
   cases e with
   | normal=>
    obtain ⟨s'',h1,h2⟩:=hK
    cases h1
    exact ⟨⟨(i+1,s'),h,by simp only;rw [show n.toNat - (i+1)=k by omega];exact hf⟩,by simp only;omega,h2⟩
   | _=>obtain ⟨y,h1,h2⟩:=hK;cases h1
 ·obtain rfl:i=n.toNat:=by omega
  simp only [Nat.sub_self,ck,Option.some.injEq] at hf
  refine jY ?_ (last n.toNat s (by omega) hf.symm)
  intro e bF hK
  cases e with
  | normal=>exact hK.elim
  | _=>exact hK
def cS {σ ρ:Type} (f:σ→Option (σ ⊕ ρ)):Nat→σ→Option ρ
 | 0,_=>none
 | k+1,s=>match f s with
  | none=>none
  | some (.inr r)=>some r
  | some (.inl s')=>cS f k s'
theorem QA {σ ρ:Type} {f:σ→Option (σ ⊕ ρ)}:∀ {k:Nat} {s:σ} {r:ρ},cS f k s=some r→∀ {k':Nat},k≤k'→cS f k' s=some r
 | 0,_,_,h,_,_=>by cases h
 | k+1,s,r,h,k',hk=>by
  obtain ⟨m,rfl⟩:∃ m,k'=m+1:=⟨k' - 1,by omega⟩
  simp only [cS] at h ⊢
  split at h
  ·cases h
  ·exact h
  ·exact QA h (by omega)
open Classical in
noncomputable def iter {σ ρ:Type} (f:σ→Option (σ ⊕ ρ)) (s:σ):Option ρ:=if h:∃ r,∃ k,cS f k s=some r then some h.choose else none
theorem yR {σ ρ:Type} {f:σ→Option (σ ⊕ ρ)} {s:σ} {r:ρ}:iter f s=some r↔∃ k,cS f k s=some r:=by
 unfold iter
 split
 ·rename_i h
  obtain ⟨k,hk⟩:=h.choose_spec
  simp only [Option.some.injEq]
  constructor
  ·intro e;exact ⟨k,by rw [←e];exact hk⟩
  ·rintro ⟨k',hk'⟩
   have h1:=QA hk (uu k k')
   have h2:=QA hk' (ut k k')
   rw [h1] at h2;exact Option.some.inj h2
 ·rename_i h
  constructor
  ·intro e;cases e
  ·rintro ⟨k,hk⟩;exact absurd ⟨r,k,hk⟩ h
theorem Ns {σ ρ:Type} (f:σ→Option (σ ⊕ ρ)) (s:σ):iter f s=match f s with
  | none=>none
  | some (.inr r)=>some r
  | some (.inl s')=>iter f s':=by
 apply Option.ext
 intro r
 rw [yR]
 constructor
 ·rintro ⟨k,hk⟩
  cases k with
  | zero=>cases hk
  | succ k=>
   simp only [cS] at hk
   split at hk
   ·cases hk
   ·exact hk
   ·exact yR.2 ⟨k,hk⟩
 ·intro h
  split at h
  ·cases h
  ·rename_i e;exact ⟨1,by simp only [cS,e];exact h⟩
  ·rename_i e
   obtain ⟨k,hk⟩:=yR.1 h
   exact ⟨k+1,by simp only [cS,e];exact hk⟩
theorem Nt {C:bY} {nt:Fr} {x:cH} {K:Exit→St→Prop} {st:St} {σ ρ:Type} {f:σ→Option (σ ⊕ ρ)} {s0:σ} {out:ρ} (hl:iter f s0=some out)
  (E:σ→List (Nat×AV)) (H:σ→List (Nat×aI)) (h0:ct st ⟨E s0,H s0,st.next⟩)
  (body:∀ (s:σ) (o:σ ⊕ ρ),f s=some o→dF C nt x (B8 (fun s=>⟨E s,H s,st.next⟩) K (.inr out) o) ⟨E s,H s,st.next⟩):dF C nt (.loop x) K st:=by
 obtain ⟨k,hk⟩:=yR.1 hl
 refine F8 (ι:={p:Nat×σ // cS f p.1 p.2=some out}) (fun p=>⟨E p.1.2,H p.1.2,st.next⟩) (fun p=>p.1.1) ⟨(k,s0),hk⟩ (fun _=>ui _) h0 (ui _) ?_
 rintro ⟨⟨i,s⟩,hf⟩
 simp only at hf
 cases i with
 | zero=>cases hf
 | succ i=>
  simp only [cS] at hf
  split at hf
  ·cases hf
  ·rename_i r hr
   cases hf
   refine jY ?_ (body s _ hr)
   intro e bF hK
   cases e with
   | normal=>obtain ⟨s',h1,_⟩:=hK;cases h1
   | _=>obtain ⟨y,h1,h2⟩:=hK;cases h1;exact h2 rfl
  ·rename_i s' hr
   refine jY ?_ (body s _ hr)
   intro e bF hK
   cases e with
   | normal=>obtain ⟨s'',h1,h2⟩:=hK;cases h1;exact ⟨⟨(i,s'),hf⟩,by simp only;omega,h2⟩
   | _=>obtain ⟨y,h1,h2⟩:=hK;cases h1
theorem aO.start {C:Ctx} {f:Nat} {F:dM} (hF:qM C f=some F.erase) {args:List IV} {r:IV} (d:Nat) (hn:args.length≤F.nt)
 (h:∀ B,dF C.plain ⟨F.nt,B⟩ F.body (W6 F.results (Yd d r)) {env:=ju 0 (args.map .ak),heap:=[],next:=0}):aO C f args r:=aO.of (d:=d) (bU.enter hF (by simpa using hn) (fun B=>jY (fun e st hk=>by
  have key:∀ {o:Option AV},JD (Yd d r) st.heap st.next o→∃ x,o=some x∧Yd d r x st.heap st.next:=fun {o} ho=>by
   cases o with
   | none=>exact ho.elim
   | some x=>exact ⟨x,rfl,ho⟩
  cases e with
  | ret=>exact ⟨.inl rfl,key hk⟩
  | normal=>exact ⟨.inr rfl,key hk⟩
  | _=>exact hk.elim) (h B)))
end
section
def zb (n:Int):List IV:=[.int .i64 n]
def km (k:IntKind) (n:Int):List IV:=[.int k n]
def zh (b:Bool):List IV:=[.bool b]
def Nu (s:ByteArray):List IV:=[.str s]
def q8 {α:Type} (f:α→List IV) (l:List α):List IV:=[.slice (l.map f)]
def zk (r:List IV):List AV:=r.map .ak
abbrev vI (n:Int):AV:=.ak (.int .i64 n)
abbrev vB (b:Bool):AV:=.ak (.bool b)
def Wp {α:Type} (l:List α) (a b:Int):Option (List α):=if 0≤a∧a≤b∧b≤(l.length:Int) then some ((l.take b.toNat).drop a.toNat) else none
theorem Nv {α:Type} {l:List α} {a b:Int} {e:List α} (h:Wp l a b=some e):0≤a∧a≤b∧b≤(l.length:Int)∧(l.take b.toNat).drop a.toNat=e:=by
 unfold Wp at h;split at h
 ·rename_i hh;exact ⟨hh.1,hh.2.1,hh.2.2,Option.some.inj h⟩
 ·cases h
def ye (k:IntKind) (a b:Int):Option Int:=if b=0 then none else some (a.tmod b)
theorem Nw {k:IntKind} {a b e:Int} (h:ye k a b=some e):¬ b=0∧a.tmod b=e:=by
 unfold ye at h;split at h
 ·cases h
 ·exact ⟨‹_›,Option.some.inj h⟩
attribute [simp] bne ap cellsOf yz xR Qx zJ xr qJ ve ja Zq qY qC ZV jU xw jx qD zQ zq qx zK ql dV Nat.testBit jw zS xI zP zY
attribute [simp] zb km zh Nu q8 zk
end
section
def jy (φ:Nat→Nat):AV→AV
 | .aX i af=>.aX (φ i) af
 | .ptr i r o=>.ptr (φ i) r o
 | .Zag i o l=>.Zag (φ i) o l
 | .map i=>.map (φ i)
 | .eI l i=>.eI l (φ i)
 | x=>x
def ZN (φ:Nat→Nat):AV→AV
 | .func f a c=>.func f (a.map (jy φ)) (c.map (jy φ))
 | .agg cs=>.agg (cs.map (jy φ))
 | .tuple cs=>.tuple (cs.map (jy φ))
 | x=>jy φ x
def yf (φ:Nat→Nat):AV→AV
 | .tuple cs=>.tuple (cs.map (ZN φ))
 | x=>ZN φ x
def yF (φ:Nat→Nat) (row:List AV):List AV:=row.map (yf φ)
def Dx (φ:Nat→Nat) (e:IV×AV):IV×AV:=(e.1,yf φ e.2)
def qe (φ:Nat→Nat):aI→aI
 | .af sz af=>.af sz (af.map (yF φ))
 | .bf sz l=>.bf sz l
 | .map es=>.map (es.map (Dx φ))
 | .dead=>.dead
 | .lp l R s pe=>.lp l R s pe
def fN (φ:Nat→Nat):List (Nat×aI)→List (Nat×aI)
 | []=>[]
 | (k,o)::r=>(φ k,qe φ o)::fN φ r
def A1 (φ:Nat→Nat) (l:List AV):List AV:=l.map (yf φ)
def Dy (C:Ctx) (f:Nat) (args:List AV) (heap:List (Nat×aI)) (next:Nat) (r:AV) (heap':List (Nat×aI)) (next':Nat):Prop:=
 bU C f args heap next fun x h n=>x=r∧h=heap'∧n=next'
section
variable {C:Ctx} {g g':Gh} {h h' h0:Nat→Option aI} {N N' N0:Nat→Prop} {w w':World} {φ:Nat→Nat}
structure Ren (φ:Nat→Nat) (N0:Nat→Prop) (g0:Gh) (h0:Nat→Option aI) (g:Gh) (h:Nat→Option aI):Prop where
 ep:∀ i,N0 i→g0.ρ i=g.ρ (φ i)
 zed:g0.Z=g.Z
theorem yS {g0:Gh} {m:Nat} (hr:∀ i,i < m→g0.ρ i=g.ρ (φ i)) (hz:g0.Z=g.Z) (hh:∀ i o,h0 i=some o→h (φ i)=some (qe φ o)) {x:AV} {v:Value} (hb:zP m x=true) (hv:RV C g h N w (jy φ x) v):RV C g0 h0 (· < m) w x v:=by
 cases x with
 | top=>exact .top v
 | undef=>simp only [jy] at hv;cases hv;exact .undef
 | ak y=>simp only [jy] at hv;cases hv with | ak _ _ hr'=>exact .ak _ _ (by rw [hz];exact hr')
 | nil=>simp only [jy] at hv;cases hv;exact .nil
 | cA=>simp only [jy] at hv;cases hv with | cA a cap=>exact .cA a cap
 | eI l id=>
  simp only [jy] at hv
  have hid:id < m:=by simpa [zP] using hb
  cases hv with
  | eI _ _ _ hp=>exact .eI l id hid fun R s pe h2=>by rw [hr id hid];exact hp R s pe (by rw [hh id _ h2];rfl)
 | aX id af=>
  simp only [jy] at hv
  have hid:id < m:=by simpa [zP] using hb
  cases hv with
  | aX _ _ _ hr' _ ht=>
   refine .aX id af v (by rw [hz];exact hr') hid fun sz len h1 => ?_
   obtain ⟨a1,a2,a3⟩:=ht sz len (by rw [hh id _ h1];rfl)
   refine ⟨a1,a2,fun e => ?_⟩
   rcases a3 e with ⟨b1,b2⟩ | ⟨b,cap,c,e',b1,b2,b3,b4⟩
   ·exact .inl ⟨by rw [hr id hid];exact b1,b2⟩
   ·exact .inr ⟨b,cap,c,e',by rw [hr id hid];exact b1,b2,b3,b4⟩
 | cD cells=>
  simp only [jy] at hv
  cases hv with
  | cD _ b off cv iO hc hr'=>exact .cD cells b off cv (by rw [hz];exact iO) hc (by rw [hz];exact hr')
 | ptr id row off=>
  simp only [jy] at hv
  have hid:id < m:=by simpa [zP] using hb
  cases hv with
  | ptr _ _ _ _ _ h1 hp=>
   refine .ptr id row off v hid h1 fun sz af h2 => ?_
   obtain ⟨b,b1,b2⟩:=hp sz _ (by rw [hh id _ h2];rfl)
   exact ⟨b,by rw [hr id hid];exact b1,b2⟩
 | Zag id off len=>
  simp only [jy] at hv
  have hid:id < m:=by simpa [zP] using hb
  cases hv with
  | Zag _ _ _ _ _ h1 hp=>
   refine .Zag id off len v hid h1 fun sz af h2 => ?_
   obtain ⟨b1,b2⟩:=hp sz _ (by rw [hh id _ h2];rfl)
   simp only [List.length_map] at b1
   refine ⟨b1,?_⟩
   rcases b2 with ⟨c1,c2,c3⟩ | ⟨b,cap,c,e,c1,c2,c3,c4,c5⟩
   ·exact .inl ⟨by rw [hr id hid];exact c1,by simpa using c2,c3⟩
   ·exact .inr ⟨b,cap,c,e,by rw [hr id hid];exact c1,c2,c3,c4,c5⟩
 | map id=>
  simp only [jy] at hv
  have hid:id < m:=by simpa [zP] using hb
  cases hv with
  | map _ _ _ h1 hp=>
   refine .map id v hid h1 fun es h2 => ?_
   obtain ⟨b,b1,b2⟩:=hp _ (by rw [hh id _ h2];rfl)
   exact ⟨b,by rw [hr id hid];exact b1,b2⟩
 | func=>cases hb
 | agg=>cases hb
 | tuple=>cases hb
theorem jb {g0:Gh} {m:Nat} (hr:∀ i,i < m→g0.ρ i=g.ρ (φ i)) (hz:g0.Z=g.Z) (hh:∀ i o,h0 i=some o→h (φ i)=some (qe φ o)) {x:AV} {v:Value} (hb:xI m x=true) (hv:RV C g h N w (ZN φ x) v):RV C g0 h0 (· < m) w x v:=by
 cases x with
 | func f a c=>
  simp only [xI,uk,ud] at hb
  simp only [ZN] at hv
  cases hv with
  | func _ _ _ vf vc hlf hlc hf hc=>
   refine .func f a c vf vc (by simpa using hlf) (by simpa using hlc) (fun i y u h1 h2 => ?_) (fun i y u h1 h2 => ?_)
   ·exact yS hr hz hh (hb.1 y (ua h1)) (hf i _ u (by rw [ub,h1];rfl) h2)
   ·exact yS hr hz hh (hb.2 y (ua h1)) (hc i _ u (by rw [ub,h1];rfl) h2)
 | agg cs=>
  simp only [xI,ud] at hb
  simp only [ZN] at hv
  cases hv with
  | agg _ vs hl h1 hr'=>
   exact .agg cs vs (by simpa using hl) h1 fun i y u e1 e2=>yS hr hz hh (hb y (ua e1)) (hr' i _ u (by rw [ub,e1];rfl) e2)
 | tuple cs=>
  simp only [xI,ud] at hb
  simp only [ZN] at hv
  cases hv with
  | tuple _ vs hl hr'=>
   exact .tuple cs vs (by simpa using hl) fun i y u e1 e2=>yS hr hz hh (hb y (ua e1)) (hr' i _ u (by rw [ub,e1];rfl) e2)
 | _=>exact yS hr hz hh hb hv
theorem Yf {g0:Gh} {m:Nat} (hr:∀ i,i < m→g0.ρ i=g.ρ (φ i)) (hz:g0.Z=g.Z) (hh:∀ i o,h0 i=some o→h (φ i)=some (qe φ o)) {x:AV} {v:Value} (hb:zS m x=true) (hv:RV C g h N w (yf φ x) v):RV C g0 h0 (· < m) w x v:=by
 cases x with
 | tuple cs=>
  simp only [zS,ud] at hb
  simp only [yf] at hv
  cases hv with
  | tuple _ vs hl hr'=>
   exact .tuple cs vs (by simpa using hl) fun i y u e1 e2=>jb hr hz hh (hb y (ua e1)) (hr' i _ u (by rw [ub,e1];rfl) e2)
 | top=>exact jb (x:=.top) hr hz hh hb hv
 | undef=>exact jb (x:=.undef) hr hz hh hb hv
 | ak y=>exact jb (x:=.ak y) hr hz hh hb hv
 | nil=>exact jb (x:=.nil) hr hz hh hb hv
 | cA=>exact jb (x:=.cA) hr hz hh hb hv
 | aX a b=>exact jb (x:=.aX a b) hr hz hh hb hv
 | cD a=>exact jb (x:=.cD a) hr hz hh hb hv
 | ptr a b c=>exact jb (x:=.ptr a b c) hr hz hh hb hv
 | Zag a b c=>exact jb (x:=.Zag a b c) hr hz hh hb hv
 | map a=>exact jb (x:=.map a) hr hz hh hb hv
 | func a b c=>exact jb (x:=.func a b c) hr hz hh hb hv
 | agg a=>exact jb (x:=.agg a) hr hz hh hb hv
 | eI a b=>exact jb (x:=.eI a b) hr hz hh hb hv
theorem qX {g0:Gh} {m:Nat} (hr:∀ i,i < m→g.ρ (φ i)=g0.ρ i) (hz:g0.Z=g.Z) (hN:∀ i,i < m→N (φ i)) (hh:∀ i o,i < m→h (φ i)=some o→∃ o0,h0 i=some o0∧o=qe φ o0) {x:AV} {v:Value} (hb:zP m x=true) (hv:RV C g0 h0 (· < m) w x v):RV C g h N w (jy φ x) v:=by
 cases hv with
 | top=>cases v<;>exact .top _
 | undef=>exact .undef
 | ak y _ hr'=>exact .ak _ _ (by rw [←hz];exact hr')
 | nil=>exact .nil
 | cA a cap=>exact .cA a cap
 | eI l id hid hp=>
  refine .eI l (φ id) (hN id hid) fun R s pe h2 => ?_
  obtain ⟨o0,e0,e1⟩:=hh id _ hid h2
  cases o0<;>simp only [qe] at e1<;>cases e1
  rw [hr id hid];exact hp _ _ _ e0
 | aX id af _ hr' hid ht=>
  refine .aX (φ id) af v (by rw [←hz];exact hr') (hN id hid) fun sz len h1 => ?_
  obtain ⟨o0,e0,e1⟩:=hh id _ hid h1
  cases o0<;>simp only [qe] at e1<;>cases e1
  obtain ⟨a1,a2,a3⟩:=ht _ _ e0
  refine ⟨a1,a2,fun e => ?_⟩
  rcases a3 e with ⟨b1,b2⟩ | ⟨b,cap,c,e',b1,b2,b3,b4⟩
  ·exact .inl ⟨by rw [hr id hid];exact b1,b2⟩
  ·exact .inr ⟨b,cap,c,e',by rw [hr id hid];exact b1,b2,b3,b4⟩
 | cD cells b off cv iO hc hr'=>exact .cD cells b off cv (by rw [←hz];exact iO) hc (by rw [←hz];exact hr')
 | ptr id row off _ hid h1 hp=>
  refine .ptr (φ id) row off v (hN id hid) h1 fun sz af h2 => ?_
  obtain ⟨o0,e0,e1⟩:=hh id _ hid h2
  cases o0<;>simp only [qe] at e1<;>cases e1
  obtain ⟨b,b1,b2⟩:=hp _ _ e0
  exact ⟨b,by rw [hr id hid];exact b1,b2⟩
 | Zag id off len _ hid h1 hp=>
  refine .Zag (φ id) off len v (hN id hid) h1 fun sz af h2 => ?_
  obtain ⟨o0,e0,e1⟩:=hh id _ hid h2
  cases o0<;>simp only [qe] at e1<;>cases e1
  obtain ⟨b1,b2⟩:=hp _ _ e0
  refine ⟨by simpa using b1,?_⟩
  rcases b2 with ⟨c1,c2,c3⟩ | ⟨b,cap,c,e,c1,c2,c3,c4,c5⟩
  ·exact .inl ⟨by rw [hr id hid];exact c1,by rw [c2];rfl,c3⟩
  ·exact .inr ⟨b,cap,c,e,by rw [hr id hid];exact c1,c2,c3,c4,c5⟩
 | map id _ hid h1 hp=>
  refine .map (φ id) v (hN id hid) h1 fun es h2 => ?_
  obtain ⟨o0,e0,e1⟩:=hh id _ hid h2
  cases o0<;>simp only [qe] at e1<;>cases e1
  obtain ⟨b,b1,b2⟩:=hp _ e0
  exact ⟨b,by rw [hr id hid];exact b1,b2⟩
 | func=>cases hb
 | agg=>cases hb
 | tuple=>cases hb
theorem jE {g0:Gh} {m:Nat} (hr:∀ i,i < m→g.ρ (φ i)=g0.ρ i) (hz:g0.Z=g.Z) (hN:∀ i,i < m→N (φ i)) (hh:∀ i o,i < m→h (φ i)=some o→∃ o0,h0 i=some o0∧o=qe φ o0) {x:AV} {v:Value} (hb:xI m x=true) (hv:RV C g0 h0 (· < m) w x v):RV C g h N w (ZN φ x) v:=by
 cases x with
 | func f a c=>
  simp only [xI,uk,ud] at hb
  simp only [ZN]
  cases hv with
  | func _ _ _ vf vc hlf hlc hf hc=>
   refine .func f _ _ vf vc (by simpa using hlf) (by simpa using hlc) (fun i y u h1 h2 => ?_) (fun i y u h1 h2 => ?_)
   ·rw [ub,uc] at h1
    obtain ⟨z,h1,rfl⟩:=h1
    exact qX hr hz hN hh (hb.1 z (ua h1)) (hf i z u h1 h2)
   ·rw [ub,uc] at h1
    obtain ⟨z,h1,rfl⟩:=h1
    exact qX hr hz hN hh (hb.2 z (ua h1)) (hc i z u h1 h2)
 | agg cs=>
  simp only [xI,ud] at hb
  simp only [ZN]
  cases hv with
  | agg _ vs hl h1 hr'=>
   refine .agg _ vs (by simpa using hl) h1 fun i y u e1 e2 => ?_
   rw [ub,uc] at e1
   obtain ⟨z,e1,rfl⟩:=e1
   exact qX hr hz hN hh (hb z (ua e1)) (hr' i z u e1 e2)
 | tuple cs=>
  simp only [xI,ud] at hb
  simp only [ZN]
  cases hv with
  | tuple _ vs hl hr'=>
   refine .tuple _ vs (by simpa using hl) fun i y u e1 e2 => ?_
   rw [ub,uc] at e1
   obtain ⟨z,e1,rfl⟩:=e1
   exact qX hr hz hN hh (hb z (ua e1)) (hr' i z u e1 e2)
 | top=>exact qX (x:=.top) hr hz hN hh hb hv
 | undef=>exact qX (x:=.undef) hr hz hN hh hb hv
 | ak y=>exact qX (x:=.ak y) hr hz hN hh hb hv
 | nil=>exact qX (x:=.nil) hr hz hN hh hb hv
 | cA=>exact qX (x:=.cA) hr hz hN hh hb hv
 | aX a b=>exact qX (x:=.aX a b) hr hz hN hh hb hv
 | cD a=>exact qX (x:=.cD a) hr hz hN hh hb hv
 | ptr a b c=>exact qX (x:=.ptr a b c) hr hz hN hh hb hv
 | Zag a b c=>exact qX (x:=.Zag a b c) hr hz hN hh hb hv
 | map a=>exact qX (x:=.map a) hr hz hN hh hb hv
 | eI a b=>exact qX (x:=.eI a b) hr hz hN hh hb hv
theorem Dz {g0:Gh} {m:Nat} (hr:∀ i,i < m→g.ρ (φ i)=g0.ρ i) (hz:g0.Z=g.Z) (hN:∀ i,i < m→N (φ i)) (hh:∀ i o,i < m→h (φ i)=some o→∃ o0,h0 i=some o0∧o=qe φ o0) {x:AV} {v:Value} (hb:zS m x=true) (hv:RV C g0 h0 (· < m) w x v):RV C g h N w (yf φ x) v:=by
 cases x with
 | tuple cs=>
  simp only [zS,ud] at hb
  simp only [yf]
  cases hv with
  | tuple _ vs hl hr'=>
   refine .tuple _ vs (by simpa using hl) fun i y u e1 e2 => ?_
   rw [ub,uc] at e1
   obtain ⟨z,e1,rfl⟩:=e1
   exact jE hr hz hN hh (hb z (ua e1)) (hr' i z u e1 e2)
 | top=>exact jE (x:=.top) hr hz hN hh hb hv
 | undef=>exact jE (x:=.undef) hr hz hN hh hb hv
 | ak y=>exact jE (x:=.ak y) hr hz hN hh hb hv
 | nil=>exact jE (x:=.nil) hr hz hN hh hb hv
 | cA=>exact jE (x:=.cA) hr hz hN hh hb hv
 | aX a b=>exact jE (x:=.aX a b) hr hz hN hh hb hv
 | cD a=>exact jE (x:=.cD a) hr hz hN hh hb hv
 | ptr a b c=>exact jE (x:=.ptr a b c) hr hz hN hh hb hv
 | Zag a b c=>exact jE (x:=.Zag a b c) hr hz hN hh hb hv
 | map a=>exact jE (x:=.map a) hr hz hN hh hb hv
 | func a b c=>exact jE (x:=.func a b c) hr hz hN hh hb hv
 | agg a=>exact jE (x:=.agg a) hr hz hN hh hb hv
 | eI a b=>exact jE (x:=.eI a b) hr hz hN hh hb hv
theorem Nx {g0:Gh} {m b:Nat} (hr:∀ i,i < m→g0.ρ i=g.ρ (φ i)) (hz:g0.Z=g.Z) (hh:∀ i o,h0 i=some o→h (φ i)=some (qe φ o)) {o:aI} (hb:zY m o) (hv:dx C g h N w b (qe φ o)):dx C g0 h0 (· < m) w b o:=by
 cases o with
 | af sz af=>
  simp only [qe,dx] at hv ⊢
  obtain ⟨a1,c,e,a2,a3,a4⟩:=hv
  refine ⟨by rw [hz];exact a1,c,e,a2,fun i row h1 => ?_,fun i row j x h1 h2 => ?_⟩
  ·have:=a3 i (yF φ row) (by rw [ub,h1];rfl);simpa [yF] using this
  ·obtain ⟨cv,b1,b2,b3⟩:=a4 i (yF φ row) j (yf φ x) (by rw [ub,h1];rfl) (by simp only [yF];rw [ub,h2];rfl)
   exact ⟨cv,b1,b2,Yf hr hz hh (hb row (ua h1) x (ua h2)) b3⟩
 | bf sz l=>simp only [qe,dx] at hv ⊢; rw [hz];exact hv
 | map es=>
  simp only [qe,dx] at hv ⊢
  obtain ⟨a1,cG,clock,a2,a3,a4⟩:=hv
  refine ⟨by rw [hz];exact a1,cG,clock,a2,by simpa using a3,fun i k x h1 => ?_⟩
  obtain ⟨e,b1,b2,b3⟩:=a4 i k (yf φ x) (by rw [ub,h1];rfl)
  exact ⟨e,b1,b2,Yf hr hz hh (hb _ (ua h1)) b3⟩
 | dead=>trivial
 | lp l R s pe=>simp only [qe,dx] at hv ⊢; rw [hz];exact hv
theorem Ny {g0:Gh} {m b:Nat} (hr:∀ i,i < m→g.ρ (φ i)=g0.ρ i) (hz:g0.Z=g.Z) (hN:∀ i,i < m→N (φ i)) (hh:∀ i o,i < m→h (φ i)=some o→∃ o0,h0 i=some o0∧o=qe φ o0) {o:aI} (hb:zY m o) (hv:dx C g0 h0 (· < m) w b o):dx C g h N w b (qe φ o):=by
 cases o with
 | af sz af=>
  simp only [qe,dx] at hv ⊢
  obtain ⟨a1,c,e,a2,a3,a4⟩:=hv
  refine ⟨by rw [←hz];exact a1,c,e,a2,fun i row h1 => ?_,fun i row j x h1 h2 => ?_⟩
  ·rw [ub,uc] at h1
   obtain ⟨z,h1,rfl⟩:=h1
   simpa [yF] using a3 i z h1
  ·rw [ub,uc] at h1
   obtain ⟨z,h1,rfl⟩:=h1
   simp only [yF] at h2
   rw [ub,uc] at h2
   obtain ⟨y,h2,rfl⟩:=h2
   obtain ⟨cv,b1,b2,b3⟩:=a4 i z j y h1 h2
   exact ⟨cv,b1,b2,Dz hr hz hN hh (hb z (ua h1) y (ua h2)) b3⟩
 | bf sz l=>simp only [qe,dx] at hv ⊢; rw [←hz];exact hv
 | map es=>
  simp only [qe,dx] at hv ⊢
  obtain ⟨a1,cG,clock,a2,a3,a4⟩:=hv
  refine ⟨by rw [←hz];exact a1,cG,clock,a2,by simpa using a3,fun i k x h1 => ?_⟩
  rw [ub,uc] at h1
  obtain ⟨z,h1,h2⟩:=h1
  simp only [Dx] at h2
  cases h2
  obtain ⟨e,b1,b2,b3⟩:=a4 i z.1 z.2 h1
  exact ⟨e,b1,b2,Dz hr hz hN hh (hb _ (ua h1)) b3⟩
 | dead=>trivial
 | lp l R s pe=>simp only [qe,dx] at hv ⊢; rw [←hz];exact hv
theorem Xx {n:Nat} (inj:∀ i j,i < n→j < n→φ i=φ j→i=j):∀ {l:List (Nat×aI)},(∀ p∈l,p.1 < n)→∀ i,i < n→bK (fN φ l) h (φ i)=match zc l i with
  | some o=>some (qe φ o)
  | none=>h (φ i)
 | [],_,i,hi=>rfl
 | (k,o)::r,hl,i,hi=>by
  simp only [fN,bK,zc]
  by_cases e:k=i
  ·subst e;rw [if_pos rfl,if_pos rfl]
  ·rw [if_neg e,if_neg (fun h=>e (inj k i (hl (k,o) (by simp)) hi h))]
   exact Xx inj (fun p hp=>hl p (by simp [hp])) i hi
theorem yG {n:Nat}:∀ {l:List (Nat×aI)},(∀ p∈l,p.1 < n)→∀ j,(∀ i,i < n→φ i≠j)→bK (fN φ l) h j=h j
 | [],_,j,hj=>rfl
 | (k,o)::r,hl,j,hj=>by
  simp only [fN,bK]
  rw [if_neg (hj k (hl (k,o) (by simp)))]
  exact yG (fun p hp=>hl p (by simp [hp])) j hj
open Classical in
noncomputable def inv (φ:Nat→Nat) (n j:Nat):Option Nat:=if h:∃ i,i < n∧φ i=j then some h.choose else none
theorem Nz {n i:Nat} (inj:∀ i j,i < n→j < n→φ i=φ j→i=j) (hi:i < n):inv φ n (φ i)=some i:=by
 unfold inv
 have h:∃ k,k < n∧φ k=φ i:=⟨i,hi,rfl⟩
 rw [dif_pos h]
 have:=h.choose_spec
 rw [inj _ _ this.1 hi this.2]
theorem qO {n i j:Nat} (h:inv φ n j=some i):i < n∧φ i=j:=by
 unfold inv at h
 split at h
 ·rename_i hh;cases h;exact hh.choose_spec
 ·cases h
theorem yg {n j:Nat} (h:inv φ n j=none):∀ i,i < n→φ i≠j:=by
 unfold inv at h
 split at h
 ·cases h
 ·rename_i hh;exact fun i hi e=>hh ⟨i,hi,e⟩
theorem frame {f m n1:Nat} {dQ:List AV} {cT bZ:List (Nat×aI)} {r0:AV} (hc:Dy C f dQ cT m r0 bZ n1)
  (A2:∀ p∈cT,p.1 < m∧zY m p.2) (hka:∀ x∈dQ,zS m x=true) (hk1:∀ p∈bZ,p.1 < n1∧zY n1 p.2) (fZ:zS n1 r0=true)
  (hall:∀ i,i < m→(zc bZ i).isSome=true) (inj:∀ i j,i < n1→j < n1→φ i=φ j→i=j)
  (hB:∀ i o,zc cT i=some o→h (φ i)=some (qe φ o)) (hN:∀ i,i < m→N (φ i)) (hfr:∀ i,m≤i→i < n1→¬ N (φ i)) (DA:∀ j,N j→N' j) (B9:∀ i,i < n1→N' (φ i))
  {vs:List Value} (R:RH C g h N w) (hv:nH C g h N w (A1 φ dQ) vs) (hm:m≤n1) :
  Calls C.P (C.eC f) vs.toArray w fun e w'=>∃ v g',e=.returned v∧b9 g h N w g' (bK (fN φ bZ) h) N' w'∧RH C g' (bK (fN φ bZ) h) N' w'∧RV C g' (bK (fN φ bZ) h) N' w' (yf φ r0) v:=by
 let g0:Gh:=⟨fun i=>if i < m then g.ρ (φ i) else none,g.Z⟩
 have dZ:∀ i,i < m→g0.ρ i=g.ρ (φ i):=fun i hi=>if_pos hi
 have fF:∀ i b,g0.ρ i=some b→i < m∧g.ρ (φ i)=some b:=fun i b hb=>by
  simp only [g0] at hb
  split at hb
  ·exact ⟨‹_›,hb⟩
  ·cases hb
 have sS:∀ i o,zc cT i=some o→i < m∧zY m o:=fun i o ho=>A2 (i,o) (jv ho)
 have R0:RH C g0 (zc cT) (· < m) w:={
  inj:=fun i j b h1 h2=>by
   obtain ⟨a1,a2⟩:=fF i b h1
   obtain ⟨b1,b2⟩:=fF j b h2
   exact inj i j (by omega) (by omega) (R.inj _ _ b a2 b2)
  lt:=fun i b h1=>by
   obtain ⟨a1,a2⟩:=fF i b h1
   exact ⟨(R.lt _ b a2).1,a1⟩
  key:=fun i o ho=>(sS i o ho).1
  obj:=fun i b o h1 ho=>by
   obtain ⟨a1,a2⟩:=fF i b h1
   exact Nx dZ rfl hB (sS i o ho).2 (R.obj _ b _ a2 (hB i o ho))
  cP:=fun i sz len ho h1=>by
   have hi:=(sS i _ ho).1
   exact R.cP (φ i) sz len (hB i _ ho) (by rw [←dZ i hi];exact h1)
  ed:=R.ed
  fix:=⟨R.fix.1,R.fix.2.1,fun b hb ⟨i,hi⟩=>R.fix.2.2 b hb ⟨_,(fF i b hi).2⟩⟩}
 have nG:nH C g0 (zc cT) (· < m) w dQ vs:=⟨by have:=hv.1;simpa [A1] using this,fun j x u h1 h2=>
  Yf dZ rfl hB (hka x (ua h1)) (hv.2 j (yf φ x) u (by simp only [A1];rw [ub,h1];rfl) h2)⟩
 refine (hc.2 g0 w vs R0 nG).mono ?_
 rintro e w' ⟨v,r,gb,nx,g1,rfl,⟨e1,e2,e3⟩,E0,R1,cq⟩
 rw [e2,e3] at E0 R1
 rw [e1,e2,e3] at cq
 clear e1 e2 e3
 have iE:∀ p∈bZ,p.1 < n1:=fun p hp=>(hk1 p hp).1
 have nv:∀ i o,zc bZ i=some o→i < n1∧zY n1 o:=fun i o ho=>hk1 (i,o) (jv ho)
 let g':Gh:=⟨fun j=>match inv φ n1 j with | some i=>g1.ρ i | none=>g.ρ j,g1.Z⟩
 have gI:∀ i,i < n1→g'.ρ (φ i)=g1.ρ i:=fun i hi=>by simp only [g',Nz inj hi]
 have mJ:∀ j,inv φ n1 j=none→g'.ρ j=g.ρ j:=fun j hj=>by simp only [g',hj]
 have hin:∀ i,i < n1→bK (fN φ bZ) h (φ i)=match zc bZ i with | some o=>some (qe φ o) | none=>h (φ i):=Xx inj iE
 have hoff:∀ j,inv φ n1 j=none→bK (fN φ bZ) h j=h j:=fun j hj=>yG iE j (yg hj)
 have iK:∀ i o,i < n1→bK (fN φ bZ) h (φ i)=some o→∃ o0,zc bZ i=some o0∧o=qe φ o0:=fun i o hi ho=>by
  rw [hin i hi] at ho
  cases ha:zc bZ i with
  | some o0=>rw [ha] at ho;simp only [Option.some.injEq] at ho;exact ⟨o0,rfl,ho.symm⟩
  | none=>
   rw [ha] at ho
   simp only at ho
   rcases uh i m with h1 | h1
   ·have:=hall i h1;rw [ha] at this;cases this
   ·exact absurd (R.key _ _ ho) (hfr i h1 hi)
 have Ah:∀ j,N j→∀ i,inv φ n1 j=some i→i < m:=fun j hj i hi=>by
  obtain ⟨h1,h2⟩:=qO hi
  rcases uh i m with h3 | h3
  ·exact h3
  ·exact absurd (by rw [h2];exact hj) (hfr i h3 h1)
 have E:b9 g h N w g' (bK (fN φ bZ) h) N' w':={
  os:=E0.os
  tape:=E0.tape
  output:=E0.output
  size:=E0.size
  old:=fun b hb ho=>E0.old b hb (fun ⟨i,hi⟩=>ho ⟨φ i,(fF i b hi).2⟩)
  own:=fun b ⟨j,hj⟩=>by
   cases hi:inv φ n1 j with
   | some i=>
    obtain ⟨h1,rfl⟩:=qO hi
    rw [gI i h1] at hj
    rcases E0.own b ⟨i,hj⟩ with ⟨k,hk⟩ | hk
    ·exact .inl ⟨φ k,(fF k b hk).2⟩
    ·exact .inr hk
   | none=>rw [mJ j hi] at hj;exact .inl ⟨j,hj⟩
  cr:=E0.cr
  cell:=E0.cell
  shape:=E0.shape
  next:=DA
  ep:=fun j b hb o ho hnd hj=>by
   cases hi:inv φ n1 j with
   | some i=>
    have fE:=Ah j hj i hi
    obtain ⟨h1,rfl⟩:=qO hi
    obtain ⟨o0,e0,rfl⟩:=iK i o h1 ho
    rw [gI i h1]
    rcases E0.ep i b (by rw [dZ i fE];exact hb) o0 e0 (fun e=>hnd (by rw [e];rfl)) fE with h3 | ⟨sz,l,sz',l',h3,h4,h5⟩
    ·exact .inl h3
    ·subst h4;exact .inr ⟨sz,l,sz',l',by rw [hB i _ h3];rfl,rfl,h5⟩
   | none=>rw [mJ j hi];exact .inl hb
  cI:=fun j hb hj o ho hnd=>by
   cases hi:inv φ n1 j with
   | some i=>
    have fE:=Ah j hj i hi
    obtain ⟨h1,rfl⟩:=qO hi
    obtain ⟨o0,e0,rfl⟩:=iK i o h1 ho
    rw [gI i h1]
    rcases E0.cI i (by rw [dZ i fE];exact hb) fE o0 e0 (fun e=>hnd (by rw [e];rfl)) with h3 | ⟨sz,l,sz',l',h3,h4,h5⟩
    ·exact .inl h3
    ·subst h4;exact .inr ⟨sz,l,sz',l',by rw [hB i _ h3];rfl,rfl,h5⟩
   | none=>rw [mJ j hi];exact .inl hb
  af:=fun j hj sz af ho=>by
   cases hi:inv φ n1 j with
   | some i=>
    have fE:=Ah j hj i hi
    obtain ⟨h1,rfl⟩:=qO hi
    obtain ⟨o0,e0,e1⟩:=iK i _ h1 ho
    cases o0<;>simp only [qe] at e1<;>cases e1
    obtain ⟨r2,h3,h4⟩:=E0.af i fE _ _ e0
    exact ⟨_,by rw [hB i _ h3];rfl,by simpa using h4⟩
   | none=>rw [hoff j hi] at ho;exact ⟨af,ho,rfl⟩
  cV:=fun j hj sz len ho=>by
   cases hi:inv φ n1 j with
   | some i=>
    have fE:=Ah j hj i hi
    obtain ⟨h1,rfl⟩:=qO hi
    obtain ⟨o0,e0,e1⟩:=iK i _ h1 ho
    cases o0<;>simp only [qe] at e1<;>cases e1
    obtain ⟨l2,h3,h4⟩:=E0.cV i fE _ _ e0
    exact ⟨l2,by rw [hB i _ h3];rfl,h4⟩
   | none=>rw [hoff j hi] at ho;exact ⟨len,ho,ui _⟩
  maps:=fun j hj es ho=>by
   cases hi:inv φ n1 j with
   | some i=>
    have fE:=Ah j hj i hi
    obtain ⟨h1,rfl⟩:=qO hi
    obtain ⟨o0,e0,e1⟩:=iK i _ h1 ho
    cases o0<;>simp only [qe] at e1<;>cases e1
    obtain ⟨e2,h3⟩:=E0.maps i fE _ e0
    exact ⟨_,by rw [hB i _ h3];rfl⟩
   | none=>rw [hoff j hi] at ho;exact ⟨es,ho⟩
  fH:=fun j hj ll RR s pe ho=>by
   cases hi:inv φ n1 j with
   | some i=>
    have fE:=Ah j hj i hi
    obtain ⟨h1,rfl⟩:=qO hi
    obtain ⟨o0,e0,e1⟩:=iK i _ h1 ho
    cases o0<;>simp only [qe] at e1<;>cases e1
    obtain ⟨e2,e3,h3⟩:=E0.fH i fE _ _ _ _ e0
    exact ⟨_,_,by rw [hB i _ h3];rfl⟩
   | none=>rw [hoff j hi] at ho;exact ⟨s,pe,ho⟩}
 have hR:RH C g' (bK (fN φ bZ) h) N' w':={
  inj:=fun i j b h1 h2=>by
   cases hi:inv φ n1 i with
   | some i0=>
    obtain ⟨a1,rfl⟩:=qO hi
    rw [gI i0 a1] at h1
    cases hj:inv φ n1 j with
    | some j0=>
     obtain ⟨b1,rfl⟩:=qO hj
     rw [gI j0 b1] at h2
     rw [R1.inj i0 j0 b h1 h2]
    | none=>
     rw [mJ j hj] at h2
     rcases E0.own b ⟨i0,h1⟩ with ⟨k,hk⟩ | hk
     ·obtain ⟨k1,k2⟩:=fF k b hk
      have:=R.inj _ _ b k2 h2
      exact absurd this (yg hj k (by omega))
     ·have:=(R.lt j b h2).1;omega
   | none=>
    rw [mJ i hi] at h1
    cases hj:inv φ n1 j with
    | some j0=>
     obtain ⟨b1,rfl⟩:=qO hj
     rw [gI j0 b1] at h2
     rcases E0.own b ⟨j0,h2⟩ with ⟨k,hk⟩ | hk
     ·obtain ⟨k1,k2⟩:=fF k b hk
      have:=R.inj _ _ b k2 h1
      exact absurd this (yg hi k (by omega))
     ·have:=(R.lt i b h1).1;omega
    | none=>
     rw [mJ j hj] at h2
     exact R.inj i j b h1 h2
  lt:=fun i b h1=>by
   cases hi:inv φ n1 i with
   | some i0=>
    obtain ⟨a1,rfl⟩:=qO hi
    rw [gI i0 a1] at h1
    exact ⟨(R1.lt i0 b h1).1,B9 i0 a1⟩
   | none=>
    rw [mJ i hi] at h1
    obtain ⟨a1,a2⟩:=R.lt i b h1
    exact ⟨uo a1 E0.size,DA i a2⟩
  key:=fun i o ho=>by
   cases hi:inv φ n1 i with
   | some i0=>obtain ⟨a1,rfl⟩:=qO hi;exact B9 i0 a1
   | none=>rw [hoff i hi] at ho;exact DA i (R.key i o ho)
  obj:=fun i b o h1 ho=>by
   cases hi:inv φ n1 i with
   | some i0=>
    obtain ⟨a1,rfl⟩:=qO hi
    rw [gI i0 a1] at h1
    obtain ⟨o0,e0,rfl⟩:=iK i0 o a1 ho
    exact Ny (fun i hi=>gI i hi) rfl B9 iK (nv i0 o0 e0).2 (R1.obj i0 b o0 h1 e0)
   | none=>
    rw [mJ i hi] at h1
    rw [hoff i hi] at ho
    have hro:=R.obj i b o h1 ho
    have hno:¬ wq g0 b:=fun ⟨k,hk⟩=>by
     obtain ⟨k1,k2⟩:=fF k b hk
     exact yg hi k (by omega) (R.inj _ _ b k2 h1)
    obtain ⟨q1,q2⟩:=E0.old b (R.lt i b h1).1 hno
    have Ca:g'.Z b=g.Z b:=q2
    cases o with
    | af sz af=>
     simp only [dx] at hro ⊢
     obtain ⟨a1,c,e,a2,a3,a4⟩:=hro
     refine ⟨by rw [Ca];exact a1,c,e,by rw [q1];exact a2,a3,fun i row j x u1 u2 => ?_⟩
     obtain ⟨cv,b1,b2,b3⟩:=a4 i row j x u1 u2
     exact ⟨cv,b1,b2,b3.mono E⟩
    | bf sz l=>
     simp only [dx] at hro ⊢
     rw [q1,Ca]
     exact hro
    | map es=>
     simp only [dx] at hro ⊢
     obtain ⟨a1,cG,clock,a2,a3,a4⟩:=hro
     refine ⟨by rw [Ca];exact a1,cG,clock,by rw [q1];exact a2,a3,fun i k x u1 => ?_⟩
     obtain ⟨e,b1,b2,b3⟩:=a4 i k x u1
     exact ⟨e,b1,b2,b3.mono E⟩
    | dead=>trivial
    | lp l R s pe=>
     simp only [dx] at hro ⊢
     rw [q1,Ca]
     exact hro
  cP:=fun i sz len ho h1=>by
   cases hi:inv φ n1 i with
   | some i0=>
    obtain ⟨a1,rfl⟩:=qO hi
    rw [gI i0 a1] at h1
    obtain ⟨o0,e0,e1⟩:=iK i0 _ a1 ho
    cases o0<;>simp only [qe] at e1<;>cases e1
    exact R1.cP i0 _ _ e0 h1
   | none=>
    rw [mJ i hi] at h1
    rw [hoff i hi] at ho
    exact R.cP i sz len ho h1
  ed:=R1.ed
  fix:=R.fix.eS E}
 exact ⟨v,g',rfl,E,hR,Dz (fun i hi=>gI i hi) rfl B9 iK fZ cq⟩
end
end
inductive dz:List Prop→Prop where
 | nil:dz []
 | cons {p:Prop} {ps:List Prop} (h:p) (t:dz ps):dz (p::ps)
theorem dz.app:∀ {ps qs:List Prop},dz (ps++qs)→dz ps∧dz qs
 | [],qs,h=>⟨.nil,h⟩
 | p::ps,qs,h=>by
  cases h with
  | cons h t=>exact ⟨.cons h (dz.app t).1,(dz.app t).2⟩
theorem dz.one {p:Prop} (h:dz [p]):p:=by cases h;assumption
structure dD (C:Ctx) (f:Nat) (dQ:List AV) (cT:List (Nat×aI)) (m:Nat) (r0:AV) (bZ:List (Nat×aI)) (d:Nat):Prop where
 dA:Dy C f dQ cT m r0 bZ (m+d)
 k0:∀ p∈cT,p.1 < m∧zY m p.2
 ka:∀ x∈dQ,zS m x=true
 k1:∀ p∈bZ,p.1 < m+d∧zY (m+d) p.2
 kr:zS (m+d) r0=true
 all:∀ i,i < m→(zc bZ i).isSome=true
 A3:∀ i,i < m→(zc cT i).isSome=true
def gi (l:List Nat) (m next:Nat):Nat→Nat:=fun i=>if i < m then l.getD i 0 else next+(i - m)
def JE:List Nat→Bool
 | []=>true
 | x::r=>!(r.contains x)&&JE r
inductive gL (h0:List (Nat×aI)):List (Nat×aI)→List (Nat×aI)→Prop where
 | nil:gL h0 [] []
 | keep {k:Nat} {o:aI} {r s:List (Nat×aI)} (t:gL h0 r s):gL h0 ((k,o)::r) ((k,o)::s)
 | drop {k:Nat} {o:aI} {r s:List (Nat×aI)} (hk:zc h0 k=some o) (hs:zc s k=none) (t:gL h0 r s):gL h0 ((k,o)::r) s
theorem gL.get {h0 h1 h2:List (Nat×aI)} (t:gL h0 h1 h2):∀ i,zc h1 i=zc h2 i∨(zc h2 i=none∧zc h1 i=zc h0 i):=by
 induction t with
 | nil=>exact fun i=>.inl rfl
 | keep t ih=>
  intro i
  simp only [zc]
  split
  ·exact .inl rfl
  ·exact ih i
 | drop hk hs t ih=>
  intro i
  simp only [zc]
  split
  ·rename_i e;subst e;exact .inr ⟨hs,hk.symm⟩
  ·exact ih i
theorem gL.sub {h0 h1 h2:List (Nat×aI)} (t:gL h0 h1 h2):∀ p∈h2,p∈h1:=by
 induction t with
 | nil=>exact fun p hp=>hp
 | keep t ih=>
  intro p hp
  rcases ue.1 hp with e | e
  ·rw [e];simp
  ·exact ug _ (ih p e)
 | drop hk hs t ih=>exact fun p hp=>ug _ (ih p hp)
theorem Gl {φ:Nat→Nat} {n:Nat} {h:Nat→Option aI} {h0 h1 h2:List (Nat×aI)} (inj:∀ i j,i < n→j < n→φ i=φ j→i=j) (hl:∀ p∈h1,p.1 < n) (hB:∀ i o,zc h0 i=some o→h (φ i)=some (qe φ o)) (t:gL h0 h1 h2):bK (fN φ h1) h=bK (fN φ h2) h:=by
 funext j
 cases hj:inv φ n j with
 | some i=>
  obtain ⟨hi,rfl⟩:=qO hj
  rw [Xx inj hl i hi,Xx inj (fun p hp=>hl p (t.sub p hp)) i hi]
  rcases t.get i with e | ⟨e1,e2⟩
  ·rw [e]
  ·rw [e1,e2]
   cases ho:zc h0 i with
   | none=>rfl
   | some o=>simp only;rw [hB i o ho]
 | none=>rw [yG hl j (yg hj),yG (fun p hp=>hl p (t.sub p hp)) j (yg hj)]
def lR (C:Ctx) (f:Nat) (args:List AV) (l:List Nat) (m next:Nat) (cj:List (Nat×aI)) (r:AV) (aQ:List (Nat×aI)) (d:Nat):Prop:=
 ∃ dQ cT r0 bZ gF,dD C f dQ cT m r0 bZ d∧gL cT bZ gF∧A1 (gi l m next) dQ=args∧fN (gi l m next) cT=cj∧yf (gi l m next) r0=r∧fN (gi l m next) gF=aQ
theorem zm {C:Ctx} {f m d:Nat} {dQ:List AV} {cT bZ gF cj aQ:List (Nat×aI)} {r0:AV} (hd:dD C f dQ cT m r0 bZ d) (l:List Nat) (next:Nat) (ht:gL cT bZ gF) (ho:fN (gi l m next) cT=cj) (hu:fN (gi l m next) gF=aQ) :
 lR C f (A1 (gi l m next) dQ) l m next cj (yf (gi l m next) r0) aQ d:=⟨dQ,cT,r0,bZ,gF,hd,ht,rfl,ho,rfl,hu⟩
def wt (heap:List (Nat×aI)):List Nat→Option (List (Nat×aI))
 | []=>some []
 | i::l=>match zc heap i with
  | none=>none
  | some o=>match wt heap l with
   | some r=>some ((i,o)::r)
   | none=>none
theorem yT {heap:List (Nat×aI)}:∀ {l:List Nat} {cj:List (Nat×aI)},wt heap l=some cj→∀ p∈cj,zc heap p.1=some p.2
 | [],cj,h=>by cases h;intro p hp;cases hp
 | i::l,cj,h=>by
  simp only [wt] at h
  split at h
  ·cases h
  ·rename_i o ho
   split at h
   ·rename_i r hr
    cases h
    intro p hp
    rcases ue.1 hp with rfl | hp
    ·exact ho
    ·exact yT hr p hp
   ·cases h
theorem Xy {φ:Nat→Nat}:∀ {l:List (Nat×aI)} {k:Nat} {o:aI},(k,o)∈l→(φ k,qe φ o)∈fN φ l
 | (k',o')::r,k,o,h=>by
  simp only [fN]
  rcases ue.1 h with h | h
  ·cases h;simp
  ·exact ug _ (Xy h)
theorem W8:∀ {l:List Nat},JE l=true→∀ i j:Nat,i < l.length→j < l.length→l.getD i 0=l.getD j 0→i=j
 | [],_,i,j,hi,_,_=>by simp at hi
 | x::r,h,i,j,hi,hj,e=>by
  simp only [JE,uk,uz,List.contains_eq_mem,decide_eq_false_iff_not] at h
  have key:∀ k,k < r.length→r.getD k 0∈r:=fun k hk=>by simp [hk]
  cases i with
  | zero=>
   cases j with
   | zero=>rfl
   | succ j=>
    simp only [ux,ul] at e
    exact absurd (by rw [e];exact key j (by simpa using hj)) h.1
  | succ i=>
   cases j with
   | zero=>
    simp only [ux,ul] at e
    exact absurd (by rw [←e];exact key i (by simpa using hi)) h.1
   | succ j=>
    simp only [ul] at e
    rw [W8 h.2 i j (by simpa using hi) (by simpa using hj) e]
structure oB (l:List Nat) (m next:Nat):Prop where
 len:l.length=m
 nd:JE l=true
 lt:∀ x∈l,x < next
def ZZ (l:List Nat) (m next:Nat):Bool:=l.length == m&&JE l&&l.all fun x=>decide (x < next)
theorem Gn {l:List Nat} {m next:Nat} (h:ZZ l m next=true):oB l m next:=by
 simp only [ZZ,uk,beq_iff_eq,ud,decide_eq_true_eq] at h
 exact ⟨h.1.1,h.1.2,h.2⟩
theorem W9 {l:List Nat} {m next:Nat} (P:oB l m next) {i:Nat} (hi:i < m):gi l m next i < next:=by
 simp only [gi,if_pos hi]
 exact P.lt _ (by simp [P.len,hi])
theorem Xz {l:List Nat} {m next:Nat} (P:oB l m next) (i j:Nat) (e:gi l m next i=gi l m next j):i=j:=by
 rcases uh i m with h1 | h1<;>rcases uh j m with h2 | h2
 ·simp only [gi,if_pos h1,if_pos h2] at e
  exact W8 P.nd i j (by rw [P.len];exact h1) (by rw [P.len];exact h2) e
 ·have:=W9 P h1
  simp only [gi,if_neg (uq.2 h2)] at e this
  omega
 ·have:=W9 P h2
  simp only [gi,if_neg (uq.2 h1)] at e this
  omega
 ·simp only [gi,if_neg (uq.2 h1),if_neg (uq.2 h2)] at e
  omega
theorem bU.dA {C:Ctx} {f m d next:Nat} {args:List AV} {heap cj aQ:List (Nat×aI)} {l:List Nat} {r:AV} {K:AV→List (Nat×aI)→Nat→Prop} (hc:lR C f args l m next cj r aQ d) (hp:ZZ l m next=true) (ho:wt heap l=some cj)
  (hK:K r (zl aQ heap) (next+d)):bU C f args heap next K:=by
 obtain ⟨dQ,cT,r0,bZ,gF,D,T,rfl,rfl,rfl,rfl⟩:=hc
 have P:=Gn hp
 refine ⟨D.dA.1,fun g w vs R hv => ?_⟩
 have A4:=Gl (φ:=gi l m next) (n:=m+d) (h:=zc heap) (fun i j _ _ e=>Xz P i j e) (fun p hp=>(D.k1 p hp).1) (fun i o hi=>yT ho _ (Xy (jv hi))) T
 have:=frame (φ:=gi l m next) (N':=(· < next+d)) D.dA D.k0 D.ka D.k1 D.kr D.all (fun i j _ _ e=>Xz P i j e)
  (fun i o hi=>yT ho _ (Xy (jv hi))) (fun i hi=>W9 P hi) (fun i h1 _=>by simp only [gi,if_neg (uq.2 h1)];omega) (fun j hj=>by omega)
  (fun i hi=>by
   rcases uh i m with h1 | h1
   ·have:=W9 P h1;omega
   ·simp only [gi,if_neg (uq.2 h1)];omega) R hv (by omega)
 refine this.mono ?_
 rintro e w' ⟨v,g',rfl,E,R',hr⟩
 refine ⟨v,_,_,_,g',rfl,hK,?_,?_,?_⟩
 ·rw [jQ,←A4];exact E
 ·rw [jQ,←A4];exact R'
 ·rw [jQ,←A4];exact hr
theorem dJ.dA {C:Ctx} {f m next d:Nat} {args:List AV} {heap cj aQ:List (Nat×aI)} {l:List Nat} {r:AV} (hc:lR C f args l m next cj r aQ d) (hp:ZZ l m next=true) (ho:wt heap l=some cj) :
  dJ C f args (zc heap) l r aQ (uB next d):=by
 obtain ⟨dQ,cT,r0,bZ,gF,D,T,rfl,rfl,rfl,rfl⟩:=hc
 have P:=Gn hp
 refine ⟨D.dA.1,fun g h N w vs hag hex R hv => ?_⟩
 have hmem:∀ i o,zc cT i=some o→h (gi l m next i)=some (qe (gi l m next) o):=fun i o hi=>by
  have hi':=(D.k0 _ (jv hi)).1
  rw [hag _ (by simp only [gi,if_pos hi'];simp [P.len,hi'])]
  exact yT ho _ (Xy (jv hi))
 have Gp:∀ i,i < m→N (gi l m next i):=fun i hi=>by
  obtain ⟨o,ho⟩:=Option.isSome_iff_exists.1 (D.A3 i hi)
  exact R.key _ _ (hmem i o ho)
 have A4:=Gl (φ:=gi l m next) (n:=m+d) (h:=h) (fun i j _ _ e=>Xz P i j e) (fun p hp=>(D.k1 p hp).1) hmem T
 rw [←A4]
 have hnew:∀ i,m≤i→i < m+d→gi l m next i∈uB next d:=fun i h1 h2=>by
  rw [List.mem_range'_1];simp only [gi,if_neg (show ¬ i < m by omega)];omega
 exact frame (φ:=gi l m next) (N':=xt N (uB next d)) D.dA D.k0 D.ka D.k1 D.kr D.all (fun i j _ _ e=>Xz P i j e) hmem Gp (fun i h1 h2=>hex _ (hnew i h1 h2)) (fun j hj=>.inl hj)
  (fun i hi=>by
   rcases uh i m with h1 | h1
   ·exact .inl (Gp i h1)
   ·exact .inr (hnew i h1 hi)) R hv (by omega)
theorem gD.dA {C:Ctx} {f m next:Nat} {args:List AV} {heap cj aQ:List (Nat×aI)} {l:List Nat} {r:AV} {KD:List Nat→AV→List (Nat×aI)→Prop} (hc:lR C f args l m next cj r aQ 0) (hp:ZZ l m next=true) (ho:wt heap l=some cj)
 (hK:KD l r aQ):gD C f args heap KD:=⟨l,_,_,dJ.dA hc hp ho,hK⟩
def za {α:Type} (f:α→List IV) (l:List α):List (List AV):=l.map fun x=>zk (f x)
theorem NA (φ:Nat→Nat) (r:List IV):yF φ (zk r)=zk r:=by
 simp only [yF,zk,uA]
 exact um fun x _=>rfl
theorem NB {α:Type} (φ:Nat→Nat) (f:α→List IV) (l:List α):(za f l).map (yF φ)=za f l:=by
 simp only [za,uA]
 exact um fun x _=>NA φ (f x)
theorem bG {φ:Nat→Nat}:fN φ []=[]:=rfl
theorem bB {φ:Nat→Nat} {k:Nat} {o:aI} {r s:List (Nat×aI)} (h:fN φ r=s):fN φ ((k,o)::r)=(φ k,qe φ o)::s:=by rw [←h];rfl
theorem aZ {φ:Nat→Nat} {k sz:Nat} {α:Type} {f:α→List IV} {l:List α} {r s:List (Nat×aI)} (h:fN φ r=s):fN φ ((k,.af sz (za f l))::r)=(φ k,.af sz (za f l))::s:=by
 rw [←h];simp only [fN,qe,NB]
theorem ZO {α:Type} (m sz:Nat) (f:α→List IV) (l:List α):zY m (.af sz (za f l)):=by
 simp only [zY,za]
 intro row hr x hx
 obtain ⟨y,_,rfl⟩:=un.1 hr
 obtain ⟨z,_,rfl⟩:=un.1 hx
 rfl
def zg {α β:Type} (kf:α→IV) (vf:β→IV) (es:List (α×β)):List (IV×AV):=es.map fun e=>(kf e.1,.ak (vf e.2))
theorem NC {α β:Type} (φ:Nat→Nat) (kf:α→IV) (vf:β→IV) (es:List (α×β)):(zg kf vf es).map (Dx φ)=zg kf vf es:=by
 simp only [zg,uA]
 exact um fun x _=>rfl
theorem eE {φ:Nat→Nat} {k:Nat} {α β:Type} {kf:α→IV} {vf:β→IV} {es:List (α×β)} {r s:List (Nat×aI)} (h:fN φ r=s):fN φ ((k,.map (zg kf vf es))::r)=(φ k,.map (zg kf vf es))::s:=by
 rw [←h];simp only [fN,qe,NC]
theorem ND {α β:Type} (m:Nat) (kf:α→IV) (vf:β→IV) (es:List (α×β)):zY m (.map (zg kf vf es)):=by
 simp only [zY,zg]
 intro e he
 obtain ⟨y,_,rfl⟩:=un.1 he
 rfl
theorem NE {h0 h:Nat→Option aI} (hs:∀ i o,h0 i=some o→h i=some o):∀ (d:Nat) (x:AV) (y:IV),zJ h0 d x=some y→zJ h d x=some y:=by
 have A5:∀ {β γ:Type} {f f':β→Option γ},(∀ x y,f x=some y→f' x=some y)→∀ (l:List β) (r:List γ),aY f l=some r→aY f' l=some r:=by
  intro β γ f f' hf l
  induction l with
  | nil=>intro r h;exact h
  | cons a l ih=>
   intro r h
   simp only [aY] at h ⊢
   split at h
   ·rename_i b hb
    split at h
    ·rename_i bs AF
     cases h
     rw [hf _ _ hb]
     simp only
     rw [ih _ AF]
    ·cases h
   ·cases h
 intro d
 induction d with
 | zero=>intro x y h;cases h
 | succ d ih=>
  intro x y h
  cases x<;>simp only [zJ] at h ⊢ <;> first | exact h | skip
  case map id=>
   split at h
   ·rename_i es ho
    rw [hs _ _ ho]
    simp only
    rw [uc] at h ⊢
    obtain ⟨out,h1,h2⟩:=h
    refine ⟨out,A5 (fun e y he => ?_) _ _ h1,h2⟩
    rw [uc] at he ⊢
    obtain ⟨z,h3,h4⟩:=he
    exact ⟨z,ih _ _ h3,h4⟩
   ·cases h
  case Zag id off len=>
   split at h
   ·rename_i sz af ho
    rw [hs _ _ ho]
    simp only
    split at h
    ·rename_i hle
     rw [if_pos hle]
     rw [uc] at h ⊢
     obtain ⟨r,h1,h2⟩:=h
     exact ⟨r,A5 (fun row ys hrow=>A5 (fun x y hx=>ih x y hx) row ys hrow) _ _ h1,h2⟩
    ·cases h
   ·cases h
  case agg cs=>
   rw [uc] at h ⊢
   obtain ⟨r,h1,h2⟩:=h
   exact ⟨r,A5 (fun x y hx=>ih x y hx) _ _ h1,h2⟩
  case tuple cs=>
   rw [uc] at h ⊢
   obtain ⟨r,h1,h2⟩:=h
   exact ⟨r,A5 (fun x y hx=>ih x y hx) _ _ h1,h2⟩
theorem QB {h0 h:Nat→Option aI} (hs:∀ i o,h0 i=some o→h i=some o) {d:Nat}:∀ {args:List AV} {dH:List IV},aY (zJ h0 d) args=some dH→aY (zJ h d) args=some dH
 | [],dH,h=>h
 | a::l,dH,h=>by
  simp only [aY] at h ⊢
  split at h
  ·rename_i b hb
   split at h
   ·rename_i bs AF
    cases h
    rw [NE hs d _ _ hb]
    simp only
    rw [QB hs AF]
   ·cases h
  ·cases h
theorem QC {heap:List (Nat×aI)} {l:List Nat} {cj:List (Nat×aI)} (h:wt heap l=some cj) (i:Nat) (o:aI) (ho:zc cj i=some o):zc heap i=some o:=yT h _ (jv ho)
theorem dJ.A6 {C:Ctx} {f d:Nat} {args:List AV} {heap cj:List (Nat×aI)} {l:List Nat} {dH:List IV} {r:IV} (hp:aO C f dH r) (ho:wt heap l=some cj) (hl:∀ p∈cj,p.1∈l) (hx:aY (zJ (zc cj) d) args=some dH) (hf:xQ r=true):dJ C f args (zc heap) l (.ak r) [] []:=by
 refine ⟨hp.1,fun g h N w vs hag hex R hv => ?_⟩
 have hsub:∀ i o,zc cj i=some o→h i=some o:=fun i o hi=>by
  rw [hag i (hl _ (jv hi))];exact QC ho i o hi
 have hx':aY (zJ h d) args=some dH:=QB hsub hx
 exact (dJ.ow (h0:=h) hp hx' hf).2 g h N w vs (fun _ _=>rfl) hex R hv
theorem Kb {heap:List (Nat×aI)}:∀ {l:List Nat} {cj:List (Nat×aI)},wt heap l=some cj→∀ p∈cj,p.1∈l
 | [],cj,h=>by cases h;intro p hp;cases hp
 | i::l,cj,h=>by
  simp only [wt] at h
  split at h
  ·cases h
  ·rename_i o ho
   split at h
   ·rename_i r hr
    cases h
    intro p hp
    rcases ue.1 hp with rfl | hp
    ·simp
    ·exact ug _ (Kb hr p hp)
   ·cases h
end Go.Proofs.YtcmmhbmgpflmeaaGreatDoor
