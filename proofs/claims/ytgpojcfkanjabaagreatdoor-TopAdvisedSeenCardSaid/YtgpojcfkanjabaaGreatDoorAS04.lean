/-
  The abstract machine: the rule for regions that draw their order.
  The abstract machine: calls in regions that draw their order, and such regions as a demand that can be worked off.
  The abstract machine: code as a demand that simp can work off: what is decided is run; what is not stands still.
  The abstract machine: counted loops, and small facts about numbers.
  The abstract machine: loops whose states are told by the slots that turn; lists.
  Denotations: small facts that printed proofs use.
  Denotations: rows of cells; what the printed proofs use.
  The abstract machine: a contract over a small heap serves in every heap that holds such objects under other names.
  Calls by contracts over small heaps.
-/
import Derived.Test.YtgpojcfkanjabaaGreatDoorAS03
open List renaming mem_of_getElem? → ua, getElem?_map → ub, all_eq_true → ud, getElem?_eq_some_iff → ue, mem_cons → ui, mem_cons_of_mem → uj, mem_flatMap → ul, any_eq_true → uo, getD_cons_succ → uq, map_congr_left → ur, mem_map → uu, getElem_mem → ux, flatMap_eq_nil_iff → uy, mem_append_right → uE, mem_append_left → uF, countP_pos_iff → uG, getD_cons_zero → uH, map_map → uK, range' → uL, mem_append → uM
open Option renaming map_eq_some_iff → uc
open Bool renaming and_eq_true → um, or_eq_true → un, not_eq_true' → uJ
open Nat renaming lt_or_ge → uh, le_refl → uk, lt_of_lt_of_le → uv, not_lt → uw, le_max_right → uz, zero_add → uA, le_max_left → uD, pos_of_ne_zero → uI, blt → uN
open Array renaming getElem?_eq_some_iff → ug, getD_eq_getD_getElem? → ut, getElem?_eq_none → uB, replicate → uC
namespace Go.Proofs.YtgpojcfkanjabaaGreatDoor
open Go.RowKit
set_option linter.unusedSimpArgs false
set_option linter.unusedVariables false
section
section
variable {C:Ctx} {nt:Fr} {ro:Option Nat}
def NS (n0:Nat) (recs:List Rec) (L:Nat→Bool):Nat→Prop:=fun i=>i < n0∨(∃ k,L k=true∧i=n0+k)∨∃ k rc,L k=true∧recs[k]?=some rc∧i∈rc.ex
def YU (n0:Nat) (recs:List Rec):Prop:=(∀ (k:Nat) (rc:Rec) (i:Nat),recs[k]?=some rc→i∈rc.ex→n0+recs.length≤i)∧∀ (k l:Nat) (rk rl:Rec) (i:Nat),recs[k]?=some rk→recs[l]?=some rl→i∈rk.ex→i∈rl.ex→k=l
def Ax (C:Ctx) (nt:Fr) (recs:List Rec) (g0:Gh) (st:St) (w0:World) (L:Nat→Bool) (a:Act) (w:World):Prop:=
 ∃ g,RH C g (qj recs L 0 (za st.heap)) (NS st.next recs L) w∧bW g0 (za st.heap) (· < st.next) w0 g (qj recs L 0 (za st.heap)) (NS st.next recs L) w ∧
  a.tmps.size=nt.n∧Marks nt.B g w a.defers∧∀ t x,qU recs L 0 (za st.env) t=some x→RV C g (qj recs L 0 (za st.heap)) (NS st.next recs L) w x (a.tmps.getD t undef)
theorem Dl (n0:Nat) {recs:List Rec} {rc:Rec} (L:Nat→Bool) (i:Nat) (hi:recs[i]?=some rc):NS n0 recs (yq L i)=xg (qh (NS n0 recs L) (n0+i)) rc.ex:=by
 funext x
 simp only [NS,qh,xg,eq_iff_iff]
 constructor
 ·rintro (h | ⟨k,h1,rfl⟩ | ⟨k,r,h1,h2,h3⟩)
  ·exact .inl (.inl (.inl h))
  ·by_cases e:k=i
   ·subst e;exact .inl (.inr rfl)
   ·rw [xT _ e] at h1;exact .inl (.inl (.inr (.inl ⟨k,h1,rfl⟩)))
  ·by_cases e:k=i
   ·subst e;rw [hi] at h2;cases h2;exact .inr h3
   ·rw [xT _ e] at h1;exact .inl (.inl (.inr (.inr ⟨k,r,h1,h2,h3⟩)))
 ·rintro (((h | ⟨k,h1,rfl⟩ | ⟨k,r,h1,h2,h3⟩) | rfl) | h)
  ·exact .inl h
  ·by_cases e:k=i
   ·subst e;exact .inr (.inl ⟨k,Ze _ _,rfl⟩)
   ·exact .inr (.inl ⟨k,by rw [xT _ e];exact h1,rfl⟩)
  ·by_cases e:k=i
   ·subst e;exact .inr (.inr ⟨k,r,Ze _ _,h2,h3⟩)
   ·exact .inr (.inr ⟨k,r,by rw [xT _ e];exact h1,h2,h3⟩)
  ·exact .inr (.inl ⟨i,Ze _ _,rfl⟩)
  ·exact .inr (.inr ⟨i,rc,Ze _ _,hi,h⟩)
theorem NU {n0:Nat} {recs:List Rec} (hex:YU n0 recs) {L:Nat→Bool} {i:Nat} (h:L i=false) (hi:i < recs.length):¬ NS n0 recs L (n0+i):=by
 rintro (h1 | ⟨k,h1,h2⟩ | ⟨k,r,h1,h2,h3⟩)
 ·omega
 ·have:k=i:=by omega
  subst this
  rw [h] at h1;cases h1
 ·have:=hex.1 k r _ h2 h3;omega
theorem NV {n0:Nat} {recs:List Rec} (hex:YU n0 recs) {L:Nat→Bool} (hL:∀ k,L k=true→k < recs.length) {i:Nat} {rc:Rec} (h:L i=false) (hi:recs[i]?=some rc):∀ x∈rc.ex,¬ NS n0 recs L x:=by
 intro x hx
 have h0:=hex.1 i rc x hi hx
 rintro (h1 | ⟨k,h1,h2⟩ | ⟨k,r,h1,h2,h3⟩)
 ·omega
 ·have:=hL k h1;omega
 ·have:=hex.2 k i r rc x h2 hi h3 hx
  subst this
  rw [h] at h1;cases h1
theorem NW {ops:Array Oper} {items:List aQ} {recs:List Rec} {st aY:St} {g0:Gh} {w0:World} (hm:aM (xB C nt.n ops) ops.toList=some items) (hrun:Qu C items st recs aY)
  (hd:vP ops (Region.before ops).toList=true) (hmem:Jh (Region.before ops).toList recs=true) (hex:YU st.next recs) {listed:Array Bool} (hsz:listed.size=ops.size) (dZ:VG ops listed)
  {i:Nat} (hi:i∈Region.ready .any ops listed) {a:Act} {w:World} (hI:Ax C nt recs g0 st w0 (fun k=>listed.getD k false) a w) {Q:Exit→Act→World→Prop} {K:Act→World→Prop}
  (hK:∀ a' w',Ax C nt recs g0 st w0 (fun k=>(listed.setIfInBounds i true).getD k false) a' w'→K a' w'):wpOpIn (pg ro) 0 C.P ops Q i K a w:=by
 obtain ⟨hun,o,ho,mJ⟩:=mem_ready.1 hi
 have hilt:i < ops.size:=(ug.1 ho).1
 have pN:listed.getD i false=false:=by
  have hlt:i < listed.size:=by omega
  simp [hlt] at hun ⊢
  exact hun
 obtain ⟨hlen,cS⟩:=qi hm
 obtain ⟨it,hit,hcomp⟩:=cS i o (by simpa using ho)
 have hrl:=Jj hrun
 have hlo:items.length=ops.size:=by rw [hlen];simp
 have Ac:i < recs.length:=by omega
 have hrc:recs[i]?=some recs[i]:=by simp
 generalize NX:recs[i]=rc at hrc
 obtain ⟨hop,eW,lJ,hgd⟩:=wR hcomp
 obtain ⟨fk,ig,ry,Ay,hheap,hnext⟩:=YS items st recs aY 0 hrun i it rc hit hrc
 simp only [uA] at Ay hheap
 have oz:∀ (j:Nat) (rj:Rec),recs[j]?=some rj→∃ oj,ops[j]?=some oj∧rj.dst=oj.dst:=fun j rj hj=>by
  have hjl:j < recs.length:=(ue.1 hj).1
  have nk:ops[j]?=some (ops[j]'(by omega)):=by simp
  obtain ⟨NY,Dm,NZ⟩:=cS j (ops[j]'(by omega)) (by rw [Array.getElem?_toList];exact nk)
  obtain ⟨_,_,h3,_,_⟩:=YS items st recs aY 0 hrun j NY rj Dm hj
  exact ⟨_,nk,by rw [h3];exact (wR NZ).2.1⟩
 have lM:∀ j,ea (Region.before ops).toList j i=true→listed.getD j false=true:=fun j hb=>VH hd dZ i j o ho mJ hb
 have fP:∀ j,i < j→j < ops.size→ea (Region.before ops).toList i j=true→listed.getD j false=false:=fun j hlt hj hb=>by
  cases hc:listed.getD j false with
  | false=>rfl
  | true=>
   have nk:ops[j]?=some (ops[j]'(by omega)):=by simp
   have:=VH hd dZ j i _ nk (fun e he nV=>dZ j _ nk hc e he nV) hb
   rw [pN] at this;cases this
 have nH:∀ t,t∈o.looksAt ops→qU recs (fun k=>listed.getD k false) 0 (za st.env) t=za fk.env t:=fun t ht=>by
  rw [Ay]
  refine wK _ _ _ _ _ _ (fun j rj hj hdj => ?_) rfl
  simp only [uA]
  obtain ⟨oj,nk,sy⟩:=oz j rj hj
  rw [sy] at hdj
  have hjl:j < ops.size:=(ug.1 nk).1
  by_cases hji:j=i
  ·subst hji;rw [pN];simp
  ·have h2:=(Xd hd nk ho hdj hji).2 ht
   split at h2
   ·rename_i hlt;rw [lM j h2];simp [hlt]
   ·rename_i hge;rw [fP j (by omega) hjl h2];simp;omega
 have iG:∀ x,x∈rc.rd→qj recs (fun k=>listed.getD k false) 0 (za st.heap) x=za fk.heap x:=fun x hx=>by
  rw [hheap]
  refine yU _ _ _ _ _ _ (fun j rj hj bz => ?_) rfl
  simp only [uA]
  have hjl:j < ops.size:=by have:=(ue.1 hj).1;omega
  by_cases hji:j=i
  ·subst hji;rw [pN];simp
  ·rcases uh j i with hlt | hge
   ·have hc:jS rj rc=true:=by
     simp only [jS,un,uo]
     exact .inl ⟨x,bz,.inl (by simpa using hx)⟩
    rw [lM j (Ji hmem hj hrc hlt hc)];simp [hlt]
   ·have hlt:i < j:=by omega
    have hc:jS rc rj=true:=by
     simp only [jS,un,uo]
     exact .inr ⟨x,bz,by simpa using hx⟩
    rw [fP j hlt hjl (Ji hmem hrc hj hlt hc)];simp;omega
 obtain ⟨g,R,E,hts,hdf,fu⟩:=hI
 have gj:(fun k=>(listed.setIfInBounds i true).getD k false)=yq (fun k=>listed.getD k false) i:=by
  funext k
  simp only [yq]
  by_cases e:k=i
  ·subst e;rw [if_pos rfl];have:k < listed.size:=by omega
   simp [this]
  ·rw [if_neg e];exact getD_set_ne false (fun h=>e h.symm)
 have mK:qj recs (yq (fun k=>listed.getD k false) i) 0 (za st.heap)=bz rc.aO (qj recs (fun k=>listed.getD k false) 0 (za st.heap)):=by
  funext x
  have:=KN recs (fun k=>listed.getD k false) 0 i rc (za st.heap) x hrc (fun j rj hj hlt hL y hy hy'=>by
   simp only [uA] at hL
   have hjl:j < ops.size:=by have:=(ue.1 hj).1;omega
   have hc:jS rc rj=true:=by
    simp only [jS,un,uo]
    exact .inl ⟨y,hy,.inr (by simpa using hy')⟩
   rw [fP j hlt hjl (Ji hmem hrc hj hlt hc)] at hL
   cases hL) (by simpa using pN)
  simpa using this
 have sA:∀ t,qU recs (yq (fun k=>listed.getD k false) i) 0 (za st.env) t=vS (qU recs (fun k=>listed.getD k false) 0 (za st.env)) rc.dst rc.r t:=fun t=>by
  have:=KM recs (fun k=>listed.getD k false) 0 i rc (za st.env) t hrc (fun j rj d hj hne hdd=>by
   obtain ⟨oj,nk,sy⟩:=oz j rj hj
   rw [sy]
   refine (Xd hd ho nk ?_ (fun e=>hne e.symm)).1
   rw [←hdd,ry,eW]) (by simpa using pN)
  simpa using this
 have finish:∀ (v:Value) (w':World) (g':Gh),bW g (qj recs (fun k=>listed.getD k false) 0 (za st.heap)) (NS st.next recs fun k=>listed.getD k false) w g' (bz rc.aO (qj recs (fun k=>listed.getD k false) 0 (za st.heap))) (xg (qh (NS st.next recs fun k=>listed.getD k false) (st.next+i)) rc.ex) w' →
   RH C g' (bz rc.aO (qj recs (fun k=>listed.getD k false) 0 (za st.heap))) (xg (qh (NS st.next recs fun k=>listed.getD k false) (st.next+i)) rc.ex) w' →
   RV C g' (bz rc.aO (qj recs (fun k=>listed.getD k false) 0 (za st.heap))) (xg (qh (NS st.next recs fun k=>listed.getD k false) (st.next+i)) rc.ex) w' rc.r v→K (a.put o.dst v) w':=fun v w' g' E' R' hv=>by
  refine hK _ _ ?_
  rw [gj]
  refine ⟨g',?_,?_,?_,?_,fun t x hx => ?_⟩
  ·rw [mK,Dl _ _ _ hrc];exact R'
  ·rw [mK,Dl _ _ _ hrc];exact E.trans E'
  ·cases o.dst<;>simp [Act.put,hts]
  ·have hm':=hdf.eO E'
   cases o.dst<;>exact hm'
  ·rw [mK,Dl _ _ _ hrc]
   rw [sA,ry,eW] at hx
   cases rz:o.dst with
   | none=>
    rw [rz] at hx
    simp only [vS] at hx
    exact (fu t x hx).mono E'
   | some d=>
    rw [rz] at hx
    simp only [vS] at hx
    rw [FN a d v t (by rw [hts];exact lJ d rz)]
    split at hx
    ·rename_i e;rw [if_pos e];cases hx;exact hv
    ·rename_i e;rw [if_neg e];exact (fu t x hx).mono E'
 have hfresh:¬ NS st.next recs (fun k=>listed.getD k false) (st.next+i):=NU hex pN Ac
 have N1:∀ k,listed.getD k false=true→k < recs.length:=fun k hk=>by
  rcases uh k listed.size with h | h
  ·omega
  ·rw [ut,uB h] at hk;cases hk
 have pO:∀ x∈rc.ex,¬ NS st.next recs (fun k=>listed.getD k false) x:=NV hex N1 pN hrc
 have sB:rc.ex=[]→xg (qh (NS st.next recs fun k=>listed.getD k false) (st.next+i)) rc.ex=qh (NS st.next recs fun k=>listed.getD k false) (st.next+i):=fun h=>by rw [h,Xc]
 have oA:∀ t,t∈o.looksAt ops→RV C g (qj recs (fun k=>listed.getD k false) 0 (za st.heap)) (NS st.next recs fun k=>listed.getD k false) w ((za fk.env t).getD .top) (a.tmps.getD t undef):=fun t ht=>by
  rw [←nH t ht]
  cases hs:qU recs (fun k=>listed.getD k false) 0 (za st.env) t with
  | none=>exact .top _
  | some x=>exact fu t x hs
 have rA:∀ x∈o.op.operands,RV C g (qj recs (fun k=>listed.getD k false) 0 (za st.heap)) (NS st.next recs fun k=>listed.getD k false) w (zd fk.env (C.bf x)) (a.eval x):=fun x hx=>by
  cases x with
  | tmp t=>
   refine oA t ?_
   simp only [Oper.looksAt,uM,List.mem_filterMap]
   exact .inl ⟨.tmp t,by simpa using hx,rfl⟩
  | const v=>exact vg v
  | global gg=>exact .top _
  | func f=>
   simp only [Ctx.bf]
   split
   ·rename_i k hk
    have:=RV.func (C:=C) (g:=g) (h:=qj recs (fun k=>listed.getD k false) 0 (za st.heap)) (N:=NS st.next recs fun k=>listed.getD k false) (w:=w) k [] [] [] [] rfl rfl (fun j c v hj=>by simp at hj) (fun j c v hj=>by simp at hj)
    rw [kT hk] at this
    exact this
   ·exact .top _
 have lN:∀ b,qd fk.env it.guard=some b→Region.wanted o (yielded ops a.tmps)=b:=fun b hg=>by
  rcases hgd with ⟨h1,h2⟩ | ⟨j,want,t,h1,h2,h3,h4⟩
  ·rw [h2] at hg
   simp only [qd,Option.some.injEq] at hg
   subst hg
   simp [Region.wanted,h1]
  ·rw [h4] at hg
   simp only [qd] at hg
   simp only [Region.wanted,h1,yielded,h2,aX]
   have hlt:t < a.tmps.size:=by rw [hts];exact h3
   have hv:=oA t (by simp only [Oper.looksAt,uM];exact .inr (by simp [h1,h2]))
   have Az:a.tmps[t]?=some (a.tmps.getD t undef):=by simp [hlt]
   rw [Az]
   split at hg
   ·rename_i b' e
    rw [e] at hv
    cases hg
    rw [vt hv]
    cases b'<;>cases want<;>rfl
   ·rename_i e
    rw [e] at hv
    cases hg
    generalize a.tmps.getD t undef=u at hv
    cases hv
    cases want<;>rfl
   ·cases hg
 unfold wpOpIn
 simp only [ho]
 unfold nj at ig
 split at ig
 ·rename_i hg
  rw [lN false hg]
  simp only [Bool.false_eq_true,if_false]
  obtain ⟨h1,h2,h3⟩:=ig
  refine ⟨fun f _=>QB _ f,?_⟩
  have hE:=bW.add g (qj recs (fun k=>listed.getD k false) 0 (za st.heap)) (NS st.next recs fun k=>listed.getD k false) w (st.next+i)
  refine finish undef w g ?_ ?_ ?_
  ·rw [h2,sB h3];exact hE
  ·rw [h2,sB h3];exact R.add _
  ·rw [h1];exact .undef
 ·rename_i hg
  rw [lN true hg]
  simp only [if_true]
  refine ⟨fun f _=>QB _ f,?_⟩
  split at ig
  ·rename_i f args fT
   rw [fT] at hop
   obtain ⟨cD,S,rfl⟩:=Wv hop
   obtain ⟨cc,nT⟩:=S.fM
   split at ig
   ·rename_i f' first bp tE
    obtain ⟨fN,mH⟩:=ig
    obtain ⟨vf,vc,ow,ox⟩:=VC rA S tE
    have AA:=ox w fN
    rw [Oper.semAt_eq _ _ _ (fun c hc=>by rw [nT] at hc;cases hc),AA]
    simp only [Oper.uponIn]
    refine ⟨fun h=>(by rw [J9] at h;cases h),KI ?_⟩
    have mI:vf.toArray++cD.map a.eval++vc.toArray=(vf++cD.toList.map a.eval++vc).toArray:=by apply Array.ext';simp
    rw [mI]
    refine (mH g _ _ w _ iG pO R ow).mono ?_
    rintro e w' ⟨v,g',rfl,E',R',hv⟩
    have hE:=bW.add g' (bz rc.aO (qj recs (fun k=>listed.getD k false) 0 (za st.heap))) (xg (NS st.next recs fun k=>listed.getD k false) rc.ex) w' (st.next+i)
    have hpe:qh (xg (NS st.next recs fun k=>listed.getD k false) rc.ex) (st.next+i)=xg (qh (NS st.next recs fun k=>listed.getD k false) (st.next+i)) rc.ex:=by
     funext x;simp only [qh,xg,eq_iff_iff]
     constructor
     ·rintro ((h | h) | h)
      ·exact .inl (.inl h)
      ·exact .inr h
      ·exact .inl (.inr h)
     ·rintro ((h | h) | h)
      ·exact .inl (.inl h)
      ·exact .inr h
      ·exact .inl (.inr h)
    have hR:=R'.add (st.next+i)
    have hV:=hv.mono hE
    rw [hpe] at hE hR hV
    exact finish v w' g' (E'.trans hE) hR hV
   ·exact ig.elim
  ·rename_i su
   obtain ⟨Dn,hrd,Dp⟩:=ig
   have Dq:ai it.op (zd fk.env) (qj recs (fun k=>listed.getD k false) 0 (za st.heap)) (st.next+i)=some (rc.r,rc.aO):=by
    rw [NO (h:=za fk.heap) (fun x hx=>iG x (by rw [hrd];exact hx)),←hnext]
    exact Dn
   obtain ⟨v,w',gQ,g',E',R',hv⟩:=FL hop g _ _ w (st.next+i) (zd fk.env) a.eval rc.r rc.aO R hfresh rA Dq
   rw [Oper.semAt_eq _ _ _ (fun c hc=>by rw [hc] at hop;simp [kn] at hop)]
   rw [←sB Dp] at E' R' hv
   rcases gQ with gQ | ⟨gQ,rfl⟩
   ·rw [gQ];exact finish v w' g' E' R' hv
   ·rw [gQ];exact finish undef w' g' E' R' hv
 ·exact ig.elim
theorem Z9 (n k:Nat):(uC n false).getD k false=false:=by
 rw [ut,Array.getElem?_replicate]
 split<;>rfl
theorem N2 {listed:Array Bool} {i:Nat} (h:i < listed.size) (hf:listed.getD i false=false):((listed.setIfInBounds i true).toList.countP (· == false))+1=listed.toList.countP (· == false):=by
 have hl:i < listed.toList.length:=by simpa using h
 have hv:listed.toList[i]=false:=by simpa [h] using hf
 rw [Array.toList_setIfInBounds,List.countP_set hl]
 have hp:0 < listed.toList.countP (· == false):=uG.2 ⟨listed.toList[i],ux hl,by simp [hv]⟩
 simp only [hv]
 have e1:((false == false)=true):=rfl
 have e2:¬ ((true == false)=true):=by simp
 rw [if_pos e1,if_neg e2]
 omega
theorem N3 {ops:Array Oper} {items:List aQ} {recs:List Rec} {st aY:St} {g0:Gh} {w0:World} (hm:aM (xB C nt.n ops) ops.toList=some items) (hrun:Qu C items st recs aY)
  (hd:vP ops (Region.before ops).toList=true) (hmem:Jh (Region.before ops).toList recs=true) (hex:YU st.next recs) {Q:Exit→Act→World→Prop}
  (hQ:∀ (L:Nat→Bool) a w,(∀ k,L k=decide (k < ops.size))→Ax C nt recs g0 st w0 L a w→Q .normal a w) :
  ∀ (fuel:Nat) (listed:Array Bool) (a:Act) (w:World),listed.size=ops.size→VG ops listed→listed.toList.countP (· == false)≤fuel→Ax C nt recs g0 st w0 (fun k=>listed.getD k false) a w →
   wpAnyIn (pg ro) 0 C.P .any ops Q fuel listed a w:=by
 have done:∀ (listed:Array Bool) (a:Act) (w:World),listed.size=ops.size→(∀ k,k < ops.size→listed.getD k false=true)→Ax C nt recs g0 st w0 (fun k=>listed.getD k false) a w→Q .normal a w:=fun listed a w hsz hall hI=>
  hQ _ a w (fun k=>by
   by_cases hk:k < ops.size
   ·rw [hall k hk];simp [hk]
   ·have:¬ k < listed.size:=by omega
    simp [hk,this]) hI
 have AB:∀ (listed:Array Bool),listed.size=ops.size→VG ops listed→Region.ready .any ops listed=[]→∀ k,k < ops.size→listed.getD k false=true:=fun listed hsz dZ hr k=>by
  induction k using Nat.strongRecOn with
  | _ k ih=>
   intro hk
   cases hc:listed.getD k false with
   | true=>rfl
   | false=>
    have hok:ops[k]?=some (ops[k]'(by omega)):=by simp
    have:k∈Region.ready .any ops listed:=by
     rw [mem_ready]
     refine ⟨?_,_,hok,fun e he hb=>ih e.on (Zz hd hok he hb) (by have:=Zz hd hok he hb;omega)⟩
     have hlt:k < listed.size:=by omega
     simp [hlt] at hc ⊢
     exact hc
    rw [hr] at this
    cases this
 intro fuel
 induction fuel with
 | zero=>
  intro listed a w hsz dZ iU hI
  have hall:∀ k,k < ops.size→listed.getD k false=true:=fun k hk=>by
   cases hc:listed.getD k false with
   | true=>rfl
   | false=>
    have hlt:k < listed.toList.length:=by simp;omega
    have hv:listed.toList[k]=false:=by
     have hlt':k < listed.size:=by omega
     simpa [hlt'] using hc
    have:0 < listed.toList.countP (· == false):=uG.2 ⟨listed.toList[k],ux hlt,by simp [hv]⟩
    omega
  refine ⟨?_,done listed a w hsz hall hI⟩
  rw [List.eq_nil_iff_forall_not_mem]
  intro k hk
  obtain ⟨hun,o,ho,_⟩:=mem_ready.1 hk
  have eX:k < ops.size:=(ug.1 ho).1
  have:=hall k eX
  have hlt:k < listed.size:=by omega
  simp [hlt] at hun this
  rw [hun] at this
  cases this
 | succ fuel ih=>
  intro listed a w hsz dZ iU hI
  refine ⟨fun hr=>done listed a w hsz (AB listed hsz dZ hr) hI,fun i hi => ?_⟩
  obtain ⟨hun,o,ho,mJ⟩:=mem_ready.1 hi
  have hil:i < ops.size:=(ug.1 ho).1
  have pN:listed.getD i false=false:=by
   have hlt:i < listed.size:=by omega
   simp [hlt] at hun ⊢
   exact hun
  refine NW hm hrun hd hmem hex hsz dZ hi hI fun a' w' N4=>ih _ a' w' (by simpa using hsz) ?_ ?_ N4
  ·intro j oj nk hl e he hb
   by_cases hji:j=i
   ·subst hji
    rw [ho] at nk
    cases nk
    exact getD_set_true (mJ e he hb)
   ·rw [getD_set_ne false (fun h=>hji h.symm)] at hl
    exact getD_set_true (dZ j oj nk hl e he hb)
  ·have:=N2 (listed:=listed) (by omega) pN
   omega
theorem WT {C:bB} {ord:List Nat} {items:List aQ} {ks:Option (List Nat)} {K:Exit→St→Prop} {st aY:St} {recs:List Rec} (hrun:Qu C items st recs aY) (hmem:Jh ord recs=true) (hex:YU st.next recs) (M:Nat) (hM:aY.next≤M) (hM2:∀ rc∈recs,∀ i∈rc.ex,i < M) (hK:K .normal (St.keep ⟨aY.env,aY.heap,M⟩ ks)) :
  cG C nt (.region true ord items ks) K st:=by
 intro code hc g a w R hI
 obtain ⟨id,ops,rfl,hm,AD⟩:=Ww hc
 obtain ⟨Dr,rfl,hd⟩:=AD rfl
 obtain ⟨hlen,_⟩:=qi hm
 have hlo:items.length=ops.size:=by rw [hlen];simp
 refine wpIn_region_any Dr (N3 (g0:=g) (w0:=w) hm hrun hd hmem hex ?_ ops.size _ a w.drew (by simp) ?_ (by simp [List.countP_replicate]) ?_)
 ·intro L a' w' hL hI
  obtain ⟨g',R',E',hts,hdf,fu⟩:=hI
  obtain ⟨h1,h2,h3⟩:=WS items st recs aY 0 L hrun (fun j hj=>by rw [hL];simp;omega)
  have hrl:=Jj hrun
  have hN:∀ x,NS st.next recs L x→x < M:=by
   rintro x (h | ⟨k,hk,rfl⟩ | ⟨k,rc,hk,h4,h5⟩)
   ·omega
   ·rw [hL] at hk;simp at hk;omega
   ·exact hM2 rc (ua h4) x h5
  rw [←h2] at R' E' fu
  rw [←h1] at fu
  have EN:bW g' (za aY.heap) (NS st.next recs L) w' g' (za aY.heap) (· < M) w':={bW.refl g' (za aY.heap) (NS st.next recs L) w' with next:=hN}
  have R2:RH C g' (za aY.heap) (· < M) w':=⟨R'.inj,fun i b hb=>⟨(R'.lt i b hb).1,hN i (R'.lt i b hb).2⟩,fun i o ho=>hN i (R'.key i o ho),fun i b o hb ho=>(R'.obj i b o hb ho).keep EN rfl rfl,R'.cQ,R'.dX,R'.fix⟩
  have Rel':Rel C nt g' ⟨aY.env,aY.heap,M⟩ a' w':=⟨⟨hts,hdf,fun t x hx=>(fu t x hx).mono EN⟩,R2⟩
  refine ⟨_,g',hK,Rel'.keep ks,?_⟩
  have:=E'.trans EN
  cases ks<;>exact this
 ·intro j o ho hl
  rw [Z9] at hl;cases hl
 ·have hN:NS st.next recs (fun k=>(uC ops.size false).getD k false)=(· < st.next):=by
   funext x
   simp only [NS,eq_iff_iff]
   constructor
   ·rintro (h | ⟨k,hk,rfl⟩ | ⟨k,rc,hk,_,_⟩)
    ·exact h
    ·rw [Z9] at hk;cases hk
    ·rw [Z9] at hk;cases hk
   ·exact .inl
  have hL:(fun k=>(uC ops.size false).getD k false)=fun _=>false:=by funext k;exact Z9 _ _
  have hs:∀ (l:List Rec) (k:Nat) (f:Nat→Option AV),qU l (fun _=>false) k f=f:=by
   intro l
   induction l with
   | nil=>intro k f;rfl
   | cons r l ih=>intro k f;simp [qU,ih]
  have hh:∀ (l:List Rec) (k:Nat) (f:Nat→Option aG),qj l (fun _=>false) k f=f:=by
   intro l
   induction l with
   | nil=>intro k f;rfl
   | cons r l ih=>intro k f;simp [qj,ih]
  have hE:=bW.drew g (za st.heap) (· < st.next) w
  rw [hL] at hN
  rw [hL]
  refine ⟨g,?_,?_,R.env.size,R.env.defers,fun t x hx => ?_⟩
  ·rw [hh,hN];exact R.heap.drew
  ·rw [hh,hN];exact hE
  ·rw [hs] at hx
   rw [hh,hN]
   exact (R.env.slot t x hx).mono hE
end
end
section
theorem jW {α β:Type} {f f':α→Option β}:∀ {l:List α},(∀ x∈l,f' x=f x)→aM f' l=aM f l
 | [],_=>rfl
 | a::r,h=>by
  simp only [aM]
  rw [h a List.mem_cons_self,jW (l:=r) fun x hx=>h x (uj _ hx)]
def jo (h:Nat→Option aG):Nat→AV→List Nat
 | 0,_=>[]
 | d+1,x=>match x with
  | .agg cs=>cs.flatMap (jo h d)
  | .tuple cs=>cs.flatMap (jo h d)
  | .Zak id off len=>id::match h id with
   | some (.af _ af)=>((af.drop off).take len).flatMap fun row=>row.flatMap (jo h d)
   | _=>[]
  | .map id=>id::match h id with
   | some (.map es)=>es.flatMap fun e=>jo h d e.2
   | _=>[]
  | _=>[]
theorem VI {h h':Nat→Option aG}:∀ (d:Nat) (x:AV),(∀ i∈jo h d x,h' i=h i)→zE h' d x=zE h d x:=by
 intro d
 induction d with
 | zero=>intro x _;rfl
 | succ d ih=>
  intro x hi
  cases x with
  | agg cs=>
   simp only [zE]
   rw [jW fun c hc=>ih c fun i hm=>hi i (by simp only [jo,ul];exact ⟨c,hc,hm⟩)]
  | tuple cs=>
   simp only [zE]
   rw [jW fun c hc=>ih c fun i hm=>hi i (by simp only [jo,ul];exact ⟨c,hc,hm⟩)]
  | Zak id off len=>
   simp only [zE]
   rw [hi id (by simp [jo])]
   split
   ·rename_i sz af ho
    split
    ·rw [jW fun row hrow=>jW fun c hc=>ih c fun i hm=>hi i (by
      simp only [jo,ho,ui,ul]
      exact .inr ⟨row,hrow,c,hc,hm⟩)]
    ·rfl
   ·rfl
  | map id=>
   simp only [zE]
   rw [hi id (by simp [jo])]
   split
   ·rename_i es ho
    rw [jW fun e he=>by rw [ih e.2 fun i hm=>hi i (by
     simp only [jo,ho,ui,ul]
     exact .inr ⟨e,he,hm⟩)]]
   ·rfl
  | _=>rfl
theorem N5 {h:Nat→Option aG}:∀ (d:Nat) (x:AV),xe d x=true→jo h d x=[]:=by
 intro d
 induction d with
 | zero=>intro x _;rfl
 | succ d ih=>
  intro x hx
  cases x with
  | agg cs=>
   simp only [xe,ud] at hx
   simp only [jo,uy]
   exact fun c hc=>ih c (hx c hc)
  | tuple cs=>
   simp only [xe,ud] at hx
   simp only [jo,uy]
   exact fun c hc=>ih c (hx c hc)
  | Zak id off len=>simp [xe] at hx
  | map id=>simp [xe] at hx
  | _=>rfl
section
variable {C:Ctx} {nt:Fr} {f:Nat} {args:List AV} {h0:Nat→Option aG} {d:Nat} {dy:List IV} {r:IV}
theorem dA.pure (hp:aL C f dy r) (hm:(args.all (xe d))=true) (hx:aM (zE h0 d) args=some dy):dA C f args h0 [] (.ax r) [] []:=by
 refine ⟨hp.1,fun g h N w vs _ _ R hv => ?_⟩
 rw [Xc]
 have hx':aM (zE h d) args=some dy:=by
  rw [jW fun x Dt=>VI (h:=h0) d x fun i hi => ?_]
  ·exact hx
  ·rw [N5 d x (ud.1 hm x Dt)] at hi;cases hi
 obtain ⟨h1,h2⟩:=qi hx'
 refine (hp.2 g.Z w vs R.dX ⟨R.fix.1,R.fix.2.1⟩ ⟨by rw [h1];exact hv.1,fun j c u hc hu => ?_⟩).mono ?_
 ·have hlt:j < args.length:=by rw [←h1];exact (ue.1 hc).1
  obtain ⟨c',h3,h4⟩:=h2 j args[j] (by simp)
  rw [hc] at h3
  cases h3
  exact FQ d _ _ _ (ud.1 hm _ (ux hlt)) h4 (hv.2 j args[j] u (by simp) hu)
 ·rintro e w' ⟨v,Z',rfl,hr,hZ,hlt,hB⟩
  exact ⟨v,⟨g.ρ,Z'⟩,rfl,xw R hB hZ,yp R hB hZ hlt,.ax _ _ hr⟩
theorem dA.oy (hp:aL C f dy r) (hx:aM (zE h0 d) args=some dy) (hf:xM r=true):dA C f args h0 (args.flatMap (jo h0 d)) (.ax r) [] []:=by
 refine ⟨hp.1,fun g h N w vs hag _ R hv => ?_⟩
 rw [Xc]
 have hx':aM (zE h d) args=some dy:=by
  rw [jW fun x Dt=>VI (h:=h0) d x fun i hi=>hag i (ul.2 ⟨x,Dt,hi⟩)]
  exact hx
 obtain ⟨h1,h2⟩:=qi hx'
 let Z1:Nat→Nat:=fun b=>match w.heap[b]? with
  | some (.cells c _ _)=>max (g.Z b) c.size
  | some (.map _ _)=>max (g.Z b) 1
  | _=>g.Z b
 have iR:∀ b,g.Z b≤Z1 b:=fun b=>by
  show g.Z b≤(match w.heap[b]? with | some (.cells c _ _)=>max (g.Z b) c.size | some (.map _ _)=>max (g.Z b) 1 | _=>g.Z b)
  split
  ·exact uD _ _
  ·exact uD _ _
  ·exact uk _
 have sw:∀ b,0 < Z1 b→b < w.heap.size:=fun b hb=>by
  rcases uh b w.heap.size with h | h
  ·exact h
  ·have hn:w.heap[b]?=none:=uB h
   have:Z1 b=g.Z b:=by show (match w.heap[b]? with | some (.cells c _ _)=>max (g.Z b) c.size | some (.map _ _)=>max (g.Z b) 1 | _=>g.Z b)=g.Z b;rw [hn]
   exact R.dX b (by omega)
 have hO:∀ i b sz af,g.ρ i=some b→h i=some (.af sz af)→af.length*sz≤Z1 b:=fun i b sz af hb ho=>by
  obtain ⟨hz,c,e,hc,hlen,hcells⟩:=R.obj i b _ hb ho
  have hZ:Z1 b=max (g.Z b) c.size:=by show (match w.heap[b]? with | some (.cells c _ _)=>max (g.Z b) c.size | some (.map _ _)=>max (g.Z b) 1 | _=>g.Z b)=_;rw [hc]
  rw [hZ]
  refine Nat.le_trans ?_ (uz _ _)
  rcases Nat.eq_zero_or_pos (af.length*sz) with h0 | h0
  ·omega
  ·have hs:0 < sz:=uI fun e=>by subst e;simp at h0
   have hr:0 < af.length:=uI fun e=>by rw [e] at h0;simp at h0
   have hrow:af[af.length - 1]?=some (af[af.length - 1]'(by omega)):=by simp
   have hl:=hlen _ _ hrow
   obtain ⟨cv,h3,_⟩:=hcells (af.length - 1) _ (sz - 1) ((af[af.length - 1]'(by omega))[sz - 1]'(by omega)) hrow (by simp)
   have hlt:=(ug.1 h3).1
   have:(af.length - 1)*sz+sz=af.length*sz:=by
    rw [←Nat.succ_mul];congr 1;omega
   omega
 have hM:∀ i b es,g.ρ i=some b→h i=some (.map es)→0 < Z1 b:=fun i b es hb ho=>by
  obtain ⟨hz,bO,clock,hw,_⟩:=R.obj i b _ hb ho
  have hZ:Z1 b=max (g.Z b) 1:=by show (match w.heap[b]? with | some (.cells c _ _)=>max (g.Z b) c.size | some (.map _ _)=>max (g.Z b) 1 | _=>g.Z b)=_;rw [hw]
  rw [hZ]
  exact uv Nat.zero_lt_one (uz _ _)
 refine (hp.2 Z1 w vs sw ⟨R.fix.1,R.fix.2.1⟩ ⟨by rw [h1];exact hv.1,fun j c u hc hu => ?_⟩).mono ?_
 ·have hlt:j < args.length:=by rw [←h1];exact (ue.1 hc).1
  obtain ⟨c',h3,h4⟩:=h2 j args[j] (by simp)
  rw [hc] at h3
  cases h3
  exact YR R Z1 iR hO hM d _ _ _ h4 (hv.2 j args[j] u (by simp) hu)
 ·rintro e w' ⟨v,Z',rfl,hr,hZ,hlt,hB⟩
  exact ⟨v,g,rfl,xw (Z':=g.Z) R hB (fun _ _=>rfl),yp (Z':=g.Z) R hB (fun _ _=>rfl) (fun b hb=>uv (R.dX b hb) hB.size),.ax _ _ (FR hf hr)⟩
end
def fU (C:Ctx) (f:Nat) (args:List AV) (heap:List (Nat×aG)) (KD:List Nat→AV→List (Nat×aG)→Prop):Prop:=∃ rd r aO,dA C f args (za heap) rd r aO []∧KD rd r aO
theorem fU.pure {C:Ctx} {f:Nat} {args:List AV} {heap:List (Nat×aG)} {d:Nat} {dy:List IV} {r:IV} {KD:List Nat→AV→List (Nat×aG)→Prop} (hp:aL C f dy r) (hm:(args.all (xe d))=true) (hx:aM (zE (za heap) d) args=some dy)
 (hK:KD [] (.ax r) []):fU C f args heap KD:=⟨_,_,_,dA.pure hp hm hx,hK⟩
theorem fU.oy {C:Ctx} {f:Nat} {args:List AV} {heap:List (Nat×aG)} {d:Nat} {dy:List IV} {r:IV} {KD:List Nat→AV→List (Nat×aG)→Prop} (hp:aL C f dy r) (hx:aM (zE (za heap) d) args=some dy) (hf:xM r=true)
 (hK:KD (args.flatMap (jo (za heap) d)) (.ax r) []):fU C f args heap KD:=⟨_,_,_,dA.oy hp hx hf,hK⟩
def xn (ord:List Nat) (j:Nat) (W R:List (Nat×Nat)) (us rd:List Nat):Bool:=
 (W.all fun p=>!(us.contains p.2||rd.contains p.2)||ea ord p.1 j)&&us.all fun x=>R.all fun p=>!(p.2 == x)||ea ord p.1 j
def qZ (j:Nat) (l:List Nat) (W:List (Nat×Nat)):List (Nat×Nat):=l.map (fun x=>(j,x))++W
def oB (ord:List Nat) (j:Nat) (W R:List (Nat×Nat)) (dst:Option Nat) (st:St) (next:Nat→List (Nat×Nat)→List (Nat×Nat)→St→Prop):List Nat→AV→List (Nat×aG)→Prop:=
 fun rd r aO=>xn ord j W R (zY aO) rd=true∧next (j+1) (qZ j (zY aO) W) (qZ j rd R) (st.after dst r aO)
def BL (dst:Option Nat) (st:St) (next:St→Prop):List Nat→AV→List (Nat×aG)→Prop:=fun rd r aO=>aO=[]∧next (st.after dst r [])
def qm (KD:List Nat→AV→List (Nat×aG)→Prop) (rd:List Nat):Option (AV×List (Nat×aG))→Prop
 | some (r,aO)=>KD rd r aO
 | none=>False
def BM (C:Ctx) (KD:List Nat→AV→List (Nat×aG)→Prop) (heap:List (Nat×aG)) (args:List AV):AV→Prop
 | .func f first bp=>fU C f (first++args++bp) heap KD
 | _=>False
def dS (C:Ctx) (KD:List Nat→AV→List (Nat×aG)→Prop) (st:St):cO→Prop
 | .call f args=>BM C KD st.heap (args.map (zd st.env)) (zd st.env f)
 | op=>qm KD (zk op (zd st.env)) (ai op (zd st.env) (za st.heap) st.next)
def dG (C:Ctx) (op:cO) (KD:List Nat→AV→List (Nat×aG)→Prop) (st:St):Bool→Prop
 | true=>dS C KD st op
 | false=>KD [] .undef []
def sC (C:Ctx) (op:cO) (KD:List Nat→AV→List (Nat×aG)→Prop) (st:St) (want:Bool):AV→Prop
 | .ax (.bool b)=>dG C op KD st (b == want)
 | .undef=>dG C op KD st false
 | _=>False
def rB (C:Ctx) (it:aQ) (KD:List Nat→AV→List (Nat×aG)→Prop) (st:St):Prop:=match it.guard with
 | none=>dS C KD st it.op
 | some (t,want)=>sC C it.op KD st want ((za st.env t).getD .top)
def lC (C:Ctx) (ord:List Nat) (K:St→Prop):List aQ→Nat→List (Nat×Nat)→List (Nat×Nat)→St→Prop
 | [],_,_,_,st=>K st
 | it::rest,j,W,R,st=>rB C it (oB ord j W R it.dst st (lC C ord K rest)) st
def rC (C:Ctx) (K:St→Prop):List aQ→St→Prop
 | [],st=>K st
 | it::rest,st=>rB C it (BL it.dst st (rC C K rest)) st
section
variable {C:Ctx} {nt:Fr}
theorem FV {it:aQ} {KD:List Nat→AV→List (Nat×aG)→Prop} {st:St} (h:rB C it KD st):∃ rc:Rec,rc.dst=it.dst∧nj C it st rc∧KD rc.rd rc.r rc.aO∧rc.ex=[]:=by
 have op:∀ {g},qd st.env it.guard=some true→g=it.guard→dS C KD st it.op→∃ rc:Rec,rc.dst=it.dst∧nj C it st rc∧KD rc.rd rc.r rc.aO∧rc.ex=[]:=fun hg _ ho=>by
  obtain ⟨dst,op,gd⟩:=it
  simp only at ho hg
  cases op
  case call f args=>
   simp only [dS,BM] at ho
   split at ho
   ·rename_i f' first bp hf
    obtain ⟨rd,r,aO,hl,hk⟩:=ho
    refine ⟨⟨dst,r,aO,rd,[]⟩,rfl,?_,hk,rfl⟩
    simp only [nj,hg,hf]
    exact hl
   ·exact ho.elim
  all_goals
   simp only [dS,qm] at ho
   split at ho
   ·rename_i r aO ig
    refine ⟨⟨dst,r,aO,_,[]⟩,rfl,?_,ho,rfl⟩
    simp only [nj,hg]
    exact ⟨ig,rfl,trivial⟩
   ·exact ho.elim
 have off:qd st.env it.guard=some false→KD [] .undef []→∃ rc:Rec,rc.dst=it.dst∧nj C it st rc∧KD rc.rd rc.r rc.aO∧rc.ex=[]:=fun hg ho=>by
  refine ⟨⟨it.dst,.undef,[],[],[]⟩,rfl,?_,ho,rfl⟩
  simp only [nj,hg,and_self]
 unfold rB at h
 split at h
 ·rename_i hg;exact op (by rw [hg];rfl) hg.symm h
 ·rename_i t want hg
  unfold sC at h
  split at h
  ·rename_i b hb
   cases nI:(b == want) with
   | true=>rw [nI] at h;exact op (by rw [hg];simp only [qd,hb,nI]) hg.symm h
   | false=>rw [nI] at h;exact off (by rw [hg];simp only [qd,hb,nI]) h
  ·rename_i hb;exact off (by rw [hg];simp only [qd,hb]) h
  ·exact h.elim
theorem WU {ord:List Nat} {recs:List Rec} (h:∀ (i j:Nat) (ri rj:Rec),recs[i]?=some ri→recs[j]?=some rj→i < j→jS ri rj=true→ea ord i j=true):Jh ord recs=true:=by
 unfold Jh
 refine ud.2 fun j hj => ?_
 split
 ·rename_i rj lQ
  refine Bool.or_eq_true_iff.2 (.inr (ud.2 fun i hi => ?_))
  simp at hi
  split
  ·rename_i ri gh
   cases hc:jS ri rj with
   | true=>simp [h i j ri rj gh lQ hi hc]
   | false=>simp
  ·rfl
 ·rfl
theorem FW {ord:List Nat} {K:St→Prop}:∀ (items:List aQ) (W R:List (Nat×Nat)) (st:St) (pre:List Rec),lC C ord K items pre.length W R st →
  (∀ (i:Nat) (ri:Rec) (x:Nat),pre[i]?=some ri→x∈zY ri.aO→(i,x)∈W)→(∀ (i:Nat) (ri:Rec) (x:Nat),pre[i]?=some ri→x∈ri.rd→(i,x)∈R) →
  (∀ (i j:Nat) (ri rj:Rec),pre[i]?=some ri→pre[j]?=some rj→i < j→jS ri rj=true→ea ord i j=true) →
  ∃ recs aY,Qu C items st recs aY∧(∀ (i j:Nat) (ri rj:Rec),(pre++recs)[i]?=some ri→(pre++recs)[j]?=some rj→i < j→jS ri rj=true→ea ord i j=true)∧K aY∧∀ rc∈recs,rc.ex=[]
 | [],W,R,st,pre,h,hW,hR,hp=>⟨[],st,rfl,by simpa using hp,h,by simp⟩
 | it::rest,W,R,st,pre,h,hW,hR,hp=>by
  obtain ⟨rc,h1,h2,⟨hok,h3⟩,hx0⟩:=FV h
  have hlen:(pre++[rc]).length=pre.length+1:=by simp
  have split:∀ (i:Nat) (ri:Rec),(pre++[rc])[i]?=some ri→pre[i]?=some ri∨(i=pre.length∧ri=rc):=fun i ri hi=>by
   rw [List.getElem?_append] at hi
   split at hi
   ·exact .inl hi
   ·rename_i hge
    rcases Nat.eq_or_lt_of_le (Nat.le_of_not_lt hge) with e | e
    ·rw [←e] at hi;simp at hi;exact .inr ⟨e.symm,hi.symm⟩
    ·have:i - pre.length≠0:=by omega
     obtain ⟨m,hm⟩:=Nat.exists_eq_succ_of_ne_zero this
     rw [hm] at hi;simp at hi
  obtain ⟨recs,aY,h4,h5,h6,hx1⟩:=FW rest (qZ pre.length (zY rc.aO) W) (qZ pre.length rc.rd R) (st.after it.dst rc.r rc.aO) (pre++[rc]) (by rw [hlen];exact h3)
   (fun i ri x hi hx=>by
    rcases split i ri hi with hi | ⟨rfl,rfl⟩
    ·exact uE _ (hW i ri x hi hx)
    ·exact uF _ (uu.2 ⟨x,hx,rfl⟩))
   (fun i ri x hi hx=>by
    rcases split i ri hi with hi | ⟨rfl,rfl⟩
    ·exact uE _ (hR i ri x hi hx)
    ·exact uF _ (uu.2 ⟨x,hx,rfl⟩))
   (fun i j ri rj hi hj hlt hc=>by
    rcases split j rj hj with hj | ⟨rfl,rfl⟩
    ·rcases split i ri hi with hi | ⟨rfl,rfl⟩
     ·exact hp i j ri rj hi hj hlt hc
     ·have:=(ue.1 hj).1;omega
    ·rcases split i ri hi with hi | ⟨rfl,rfl⟩
     ·simp only [xn,um,ud] at hok
      simp only [jS,un,uo] at hc
      rcases hc with ⟨x,hx,hc⟩ | ⟨x,hx,hc⟩
      ·have:=hok.1 (i,x) (hW i ri x hi hx)
       simp only [un,uJ,Bool.or_eq_false_iff] at this
       rcases this with ⟨h7,h8⟩ | h7
       ·simp only [h7,h8] at hc;simp at hc
       ·exact h7
      ·have:=hok.2 x hx (i,x) (hR i ri x hi (by simpa using hc))
       simpa using this
     ·omega)
  refine ⟨rc::recs,aY,⟨h1,h2,h4⟩,?_,h6,fun r hr => ?_⟩
  ·simpa using h5
  ·rcases ui.1 hr with rfl | hr
   ·exact hx0
   ·exact hx1 r hr
theorem FX {K:St→Prop}:∀ (items:List aQ) (st:St),rC C K items st→∃ recs aY,Qu C items st recs aY∧(∀ rc∈recs,rc.aO=[])∧K aY∧∀ rc∈recs,rc.ex=[]
 | [],st,h=>⟨[],st,rfl,by simp,h,by simp⟩
 | it::rest,st,h=>by
  obtain ⟨rc,h1,h2,⟨hu,h3⟩,hx0⟩:=FV h
  obtain ⟨recs,aY,h4,h5,h6,hx1⟩:=FX rest _ h3
  refine ⟨rc::recs,aY,⟨h1,h2,by rw [hu];exact h4⟩,fun r hr => ?_,h6,fun r hr => ?_⟩
  ·rcases ui.1 hr with rfl | hr
   ·exact hu
   ·exact h5 r hr
  ·rcases ui.1 hr with rfl | hr
   ·exact hx0
   ·exact hx1 r hr
theorem FY {n0:Nat} {recs:List Rec} (h:∀ rc∈recs,rc.ex=[]):YU n0 recs:=by
 constructor
 ·intro k rc i hk hi
  rw [h rc (ua hk)] at hi;cases hi
 ·intro k l rk rl i hk _ hi
  rw [h rk (ua hk)] at hi;cases hi
def XY (items:List aQ):Bool:=items.all fun it=>match it.op with
 | .alloc _ _ | .box _ _ | .cZ _ _ _ _ | .store _ _ _ | .eV | .upd _ _ _ _ | .del _ _ _ | .mks _ _ _ _ | .app _ _ _ _ | .copy _ _ _=>false
 | _=>true
theorem N6 {C:bB} {ord:List Nat} {items:List aQ} {ks:Option (List Nat)} {K:Exit→St→Prop} {st:St} (h:lC C ord (fun aY=>K .normal (aY.keep ks)) items 0 [] [] st):cG C nt (.region true ord items ks) K st:=by
 obtain ⟨recs,aY,h1,h2,h3,h4⟩:=FW (ord:=ord) items [] [] st [] h (by simp) (by simp) (by simp)
 exact WT h1 (WU (by simpa using h2)) (FY h4) aY.next (uk _) (fun rc hr i hi=>by rw [h4 rc hr] at hi;cases hi) h3
theorem N7 {C:bB} {ord:List Nat} {items:List aQ} {ks:Option (List Nat)} {K:Exit→St→Prop} {st:St} (h:rC C (fun aY=>K .normal (aY.keep ks)) items st):cG C nt (.region true ord items ks) K st:=by
 obtain ⟨recs,aY,h1,h2,h3,h4⟩:=FX items st h
 refine WT h1 (WU fun i j ri rj hi hj hlt hc => ?_) (FY h4) aY.next (uk _) (fun rc hr i hi=>by rw [h4 rc hr] at hi;cases hi) h3
 simp [jS,zY,h2 ri (ua hi),h2 rj (ua hj)] at hc
end
end
section
def Zf (dst:Option Nat) (env:List (Nat×AV)) (K:St→Prop):AV→List (Nat×aG)→Nat→Prop:=fun r heap' next'=>K (St.put {env:=env,heap:=heap',next:=next'+1} dst r)
def z8 (dst:Option Nat) (K:St→Prop) (st:St):Option (AV×List (Nat×aG))→Prop
 | some (r,aO)=>K (st.after dst r aO)
 | none=>False
def VJ (C:bB) (dst:Option Nat) (K:St→Prop) (st:St) (args:List AV):AV→Prop
 | .func f first bp=>bF C f (first++args++bp) st.heap st.next (Zf dst st.env K)
 | .eB l id=>C.Y l id args st.heap st.next (Zf dst st.env K)
 | _=>False
def b8 (C:bB) (dst:Option Nat) (K:St→Prop) (st:St):cO→Prop
 | .call f args=>VJ C dst K st (args.map (zd st.env)) (zd st.env f)
 | op=>z8 dst K st (ai op (zd st.env) (za st.heap) st.next)
def tH (C:bB) (dst:Option Nat) (op:cO) (K:St→Prop) (st:St):Bool→Prop
 | true=>b8 C dst K st op
 | false=>K (st.after dst .undef [])
def Xe (C:bB) (dst:Option Nat) (op:cO) (K:St→Prop) (st:St) (want:Bool):AV→Prop
 | .ax (.bool b)=>tH C dst op K st (b == want)
 | .undef=>tH C dst op K st false
 | _=>False
def Xf (C:bB) (it:aQ) (K:St→Prop) (st:St):Prop:=match it.guard with
 | none=>b8 C it.dst K st it.op
 | some (t,want)=>Xe C it.dst it.op K st want ((za st.env t).getD .top)
theorem FZ (C:bB) (dst:Option Nat) (op:cO) (g:Option (Nat×Bool)) (K:St→Prop) (st:St) (hg:qd st.env g=some true):vQ C ⟨dst,op,g⟩ st K=b8 C dst K st op:=by
 unfold vQ
 rw [hg]
 cases op
 case call f args=>
  simp only [b8]
  cases zd st.env f<;>rfl
 all_goals
  simp only [b8]
  generalize ai _ _ _ _=r
  rcases r with _ | ⟨r,aO⟩<;>rfl
theorem N8 (C:bB) (it:aQ) (K:St→Prop) (st:St) (h:Xf C it K st):vQ C it st K:=by
 obtain ⟨dst,op,g⟩:=it
 unfold Xf at h
 split at h
 ·rename_i hg
  simp only at hg
  subst hg
  rw [FZ C dst op none K st rfl]
  exact h
 ·rename_i t want hg
  simp only at hg
  subst hg
  unfold Xe at h
  split at h
  ·rename_i b hb
   cases nI:(b == want) with
   | true=>
    rw [nI] at h
    rw [FZ C dst op _ K st (by simp only [qd,hb,nI])]
    exact h
   | false=>
    rw [nI] at h
    unfold vQ
    simp only [qd,hb,nI]
    exact h
  ·rename_i hb
   unfold vQ
   simp only [qd,hb]
   exact h
  ·exact h.elim
def nv (C:bB):List aQ→(St→Prop)→St→Prop
 | [],K,st=>K st
 | it::rest,K,st=>Xf C it (nv C rest K) st
theorem Zg (C:bB):∀ (l:List aQ) (K:St→Prop) (st:St),nv C l K st→Ar C l K st
 | [],K,st,h=>h
 | it::rest,K,st,h=>by
  have:nv C rest K=nv C rest K:=rfl
  have h1:=N8 C it _ st h
  simp only [Ar]
  unfold vQ at h1 ⊢
  split
  ·rename_i hg;rw [hg] at h1;exact Zg C rest K _ h1
  ·rename_i hg
   rw [hg] at h1
   simp only at h1
   split
   ·rename_i f args hop
    rw [hop] at h1
    simp only at h1
    split
    ·rename_i hf
     rw [hf] at h1
     exact bF.mono (fun r h n hk=>Zg C rest K _ hk) h1
    ·rename_i l id hf
     rw [hf] at h1
     exact C.ou _ _ _ _ _ _ _ (fun r h n hk=>Zg C rest K _ hk) h1
    ·rename_i hf Du
     split at h1
     ·rename_i f' first bp Dv;exact absurd Dv (hf _ _ _)
     ·rename_i l id Dv;exact absurd Dv (Du _ _)
     ·exact h1
   ·rename_i hop
    split at h1
    ·rename_i f args h3;exact absurd h3 (hop _ _)
    ·split
     ·rename_i r aO ig;rw [ig] at h1;exact Zg C rest K _ h1
     ·rename_i ig;rw [ig] at h1;exact h1
  ·rename_i hg;rw [hg] at h1;exact h1
def AE (b:AV) (x y:St→Prop) (st:St):Prop:=match b with
 | .ax (.bool true)=>x st
 | .ax (.bool false)=>y st
 | _=>False
def ZA (ks:Option (List Nat)) (K:Exit→St→Prop):St→Prop:=fun st=>K .normal (st.keep ks)
def tI (C:bB) (b:Bool) (ord:List Nat) (items:List aQ) (K:St→Prop) (st:St):Prop:=match b with
 | true=>rC C K items st
 | false=>lC C ord K items 0 [] [] st
def gp (C:bB) (nt:Fr):cy→(Exit→St→Prop)→St→Prop
 | .skip,K,st=>K .normal st
 | .region false _ items ks,K,st=>nv C items (ZA ks K) st
 | .region true ord items ks,K,st=>tI C (XY items) ord items (ZA ks K) st
 | .seq x y,K,st=>gp C nt x (vR (gp C nt y K) K) st
 | .cond c x y,K,st=>AE (zd st.env c) (gp C nt x K) (gp C nt y K) st
 | .block id x,K,st=>gp C nt x (xS id K) st
 | .loop x,K,st=>cG C nt (.loop x) K st
 | .scope x,K,st=>C.ro=none∧gp C nt x (QC K) st
 | .range f ps x y,K,st=>cG C nt (.range f ps x y) K st
 | .exit id,K,st=>K (.exit id) st
 | .ret,K,st=>K .ret st
theorem vz {C:bB} {nt:Fr}:∀ {c:cy} {K:Exit→St→Prop} {st:St},gp C nt c K st→cG C nt c K st
 | .skip,K,st,h=>Jg h
 | .region false _ items ks,K,st,h=>VD (Zg C items _ st h)
 | .region true ord items ks,K,st,h=>by
  simp only [gp,tI] at h
  split at h
  ·exact N7 h
  ·exact N6 h
 | .seq x y,K,st,h=>by
  have h1:cG C nt x (vR (gp C nt y K) K) st:=vz (c:=x) h
  refine qL (qY (fun e aY hk => ?_) h1)
  cases e with
  | normal=>exact vz (c:=y) hk
  | _=>exact hk
 | .cond c x y,K,st,h=>by
  simp only [gp,AE] at h
  split at h
  ·rename_i hb;exact xC true hb (fun _=>vz h) (fun h=>by cases h)
  ·rename_i hb;exact xC false hb (fun h=>by cases h) (fun _=>vz h)
  ·exact h.elim
 | .block id x,K,st,h=>Z7 (vz (c:=x) h)
 | .loop x,K,st,h=>h
 | .scope x,K,st,h=>KL h.1 (vz (c:=x) h.2)
 | .range f ps x y,K,st,h=>h
 | .exit id,K,st,h=>WQ h
 | .ret,K,st,h=>YQ h
section
variable {C:bB} {nt:Fr} {env:List (Nat×AV)} {heap:List (Nat×aG)} {next:Nat} {dst:Option Nat} {K:St→Prop} {KE:Exit→St→Prop} {st:St}
@[simp] theorem zoW:gp C nt .skip KE st=KE .normal st:=rfl
@[simp] theorem zm5 (o:List Nat) (items:List aQ) (ks:Option (List Nat)):gp C nt (.region false o items ks) KE st=nv C items (ZA ks KE) st:=rfl
@[simp] theorem zoX (o:List Nat) (items:List aQ) (ks:Option (List Nat)):gp C nt (.region true o items ks) KE st=tI C (XY items) o items (ZA ks KE) st:=rfl
@[simp] theorem zoY (o:List Nat) (items:List aQ):tI C true o items K st=rC C K items st:=rfl
@[simp] theorem zol (o:List Nat) (items:List aQ):tI C false o items K st=lC C o K items 0 [] [] st:=rfl
@[simp] theorem zpI (x y:cy):gp C nt (.seq x y) KE st=gp C nt x (vR (gp C nt y KE) KE) st:=rfl
@[simp] theorem zoZ (c:aZ) (x y:cy):gp C nt (.cond c x y) KE st=AE (zd st.env c) (gp C nt x KE) (gp C nt y KE) st:=rfl
@[simp] theorem zom (id:Nat) (x:cy):gp C nt (.block id x) KE st=gp C nt x (xS id KE) st:=rfl
@[simp] theorem zo0 (id:Nat):gp C nt (.exit id) KE st=KE (.exit id) st:=rfl
@[simp] theorem zpJ:gp C nt .ret KE st=KE .ret st:=rfl
@[simp] theorem zo1 (x y:St→Prop):AE (.ax (.bool true)) x y st=x st:=rfl
@[simp] theorem zon (x y:St→Prop):AE (.ax (.bool false)) x y st=y st:=rfl
@[simp] theorem zmX (n:St→Prop):vR n KE .normal st=n st:=rfl
@[simp] theorem zoo (n:St→Prop) (id:Nat):vR n KE (.exit id) st=KE (.exit id) st:=rfl
@[simp] theorem zo2 (n:St→Prop):vR n KE .ret st=KE .ret st:=rfl
@[simp] theorem zjU (id:Nat):xS id KE .normal st=KE .normal st:=rfl
@[simp] theorem zmY (id:Nat):xS id KE .ret st=KE .ret st:=rfl
@[simp] theorem N9 (id id':Nat):xS id KE (.exit id') st=if id'=id then KE .normal st else KE (.exit id') st:=rfl
@[simp] theorem zjV:QC KE .normal st=KE .normal st:=rfl
@[simp] theorem zkY (id:Nat):QC KE (.exit id) st=KE (.exit id) st:=rfl
@[simp] theorem zmZ:QC KE .ret st=KE .ret st:=rfl
@[simp] theorem KO (ks:List Nat):ZA (some ks) KE ⟨env,heap,next⟩=KE .normal ⟨qC ks env,heap,next⟩:=rfl
@[simp] theorem zop:ZA none KE st=KE .normal st:=rfl
@[simp] theorem zm0 (ks:List Nat):qC ks []=[]:=rfl
@[simp] theorem zkZ (ks:List Nat) (k:Nat) (v:AV) (r:List (Nat×AV)):qC ks ((k,v)::r)=bif ks.contains k then (k,v)::qC ks r else qC ks r:=by
 simp only [qC,List.filter_cons];cases ks.contains k<;>rfl
@[simp] theorem Oa:nv C [] K st=K st:=rfl
@[simp] theorem F0 (it:aQ) (r:List aQ):nv C (it::r) K st=Xf C it (nv C r K) st:=rfl
@[simp] theorem KP (op:cO):Xf C ⟨dst,op,none⟩ K st=b8 C dst K st op:=rfl
@[simp] theorem zoq (op:cO) (t:Nat) (want:Bool):Xf C ⟨dst,op,some (t,want)⟩ K st=Xe C dst op K st want ((za st.env t).getD .top):=rfl
@[simp] theorem zm6 (op:cO) (want:Bool):Xe C dst op K st want .undef=K (st.after dst .undef []):=rfl
@[simp] theorem zor (op:cO) (b:Bool):Xe C dst op K st true (.ax (.bool b))=tH C dst op K st b:=by simp [Xe]
@[simp] theorem zm7 (op:cO) (b:Bool):Xe C dst op K st false (.ax (.bool b))=tH C dst op K st (!b):=by cases b<;>rfl
@[simp] theorem zo3 (op:cO):tH C dst op K st true=b8 C dst K st op:=rfl
@[simp] theorem zos (op:cO):tH C dst op K st false=K (st.after dst .undef []):=rfl
@[simp] theorem VK (r:AV) (aO:List (Nat×aG)):z8 dst K st (some (r,aO))=K (st.after dst r aO):=rfl
@[simp] theorem zm8:z8 dst K st none=False:=rfl
@[simp] theorem Ob (f:aZ) (args:List aZ):b8 C dst K ⟨env,heap,next⟩ (.call f args)=VJ C dst K ⟨env,heap,next⟩ (args.map (zd env)) (zd env f):=rfl
@[simp] theorem Oc (args:List AV) (f:Nat) (first bp:List AV):VJ C dst K ⟨env,heap,next⟩ args (.func f first bp)=bF C f (first++args++bp) heap next (Zf dst env K):=rfl
@[simp] theorem Od (d:Nat) (r:AV) (heap':List (Nat×aG)) (next':Nat):Zf (some d) env K r heap' next'=K ⟨zo env d r,heap',next'+1⟩:=rfl
@[simp] theorem zk0 (r:AV) (heap':List (Nat×aG)) (next':Nat):Zf none env K r heap' next'=K ⟨env,heap',next'+1⟩:=rfl
@[simp] theorem VL (d:Nat) (r:AV) (aO:List (Nat×aG)):St.after ⟨env,heap,next⟩ (some d) r aO=⟨zo env d r,zG aO heap,next+1⟩:=rfl
@[simp] theorem zm9 (r:AV) (aO:List (Nat×aG)):St.after ⟨env,heap,next⟩ none r aO=⟨env,zG aO heap,next+1⟩:=rfl
@[simp] theorem Xg:zG [] heap=heap:=rfl
@[simp] theorem Oe (k:Nat) (o:aG) (r:List (Nat×aG)):zG ((k,o)::r) heap=zy (zG r heap) k o:=rfl
@[simp] theorem zot {α:Type} (i:Nat) (v:α):zy [] i v=[(i,v)]:=rfl
@[simp] theorem zna {α:Type} (k i:Nat) (v u:α) (r:List (Nat×α)):zy ((k,v)::r) i u=if k=i then (i,u)::r else if k=999999 then (i,u)::(k,v)::r else (k,v)::zy r i u:=rfl
@[simp] theorem Of {α:Type} (i:Nat):za ([]:List (Nat×α)) i=none:=rfl
@[simp] theorem VM {α:Type} (k i:Nat) (v:α) (r:List (Nat×α)):za ((k,v)::r) i=if k=i then some v else za r i:=rfl
@[simp] theorem KQ {α:Type} (i:Nat) (v:α):zo [] i v=[(i,v)]:=rfl
@[simp] theorem VN {α:Type} (k i:Nat) (v u:α) (r:List (Nat×α)):zo ((k,v)::r) i u=if k=i then (i,u)::r else (k,v)::zo r i u:=rfl
@[simp] theorem Og (n:Nat):zd env (.t n)=(za env n).getD .top:=rfl
@[simp] theorem zpK (x:AV):zd env (.c x)=x:=rfl
@[simp] theorem znb (i:Nat):jm i []=[]:=rfl
@[simp] theorem zm1 (i:Nat) (x:AV) (xs:List AV):jm i (x::xs)=(i,x)::jm (i+1) xs:=rfl
@[simp] theorem zo4 {α β:Type} (f:α→Option β):aM f []=some []:=rfl
@[simp] theorem zou {α β:Type} (f:α→Option β) (a:α) (r:List α):aM f (a::r)=match f a with
 | some b=>match aM f r with
  | some bs=>some (b::bs)
  | none=>none
 | none=>none:=rfl
def Xh (KA:AV→List (Nat×aG)→Nat→Prop) (heap:List (Nat×aG)) (next:Nat):Option AV→Prop
 | some r=>KA r heap next
 | none=>False
def VO (rs:List dL) (KA:AV→List (Nat×aG)→Nat→Prop):Exit→St→Prop
 | .ret,st | .normal,st=>Xh KA st.heap st.next (jD rs st)
 | _,_=>False
theorem bF.run {C:Ctx} {f:Nat} {F:dz} (hF:qo C f=some F.erase) {args:List AV} {KA:AV→List (Nat×aG)→Nat→Prop} (hn:args.length≤F.nt)
 (h:∀ B,gp C.plain ⟨F.nt,B⟩ F.body (VO F.results KA) {env:=jm 0 args,heap:=heap,next:=next}):bF C f args heap next KA:=bF.enter hF hn (fun B=>qY (fun e st hk=>by
  have key:∀ {o:Option AV},Xh KA st.heap st.next o→∃ r,o=some r∧KA r st.heap st.next:=fun {o} ho=>by
   cases o with
   | none=>exact ho.elim
   | some r=>exact ⟨r,rfl,ho⟩
  cases e with
  | ret=>exact ⟨.inl rfl,key hk⟩
  | normal=>exact ⟨.inr rfl,key hk⟩
  | _=>exact hk.elim) (vz (h B)))
def YV (d:Nat) (r:IV):AV→List (Nat×aG)→Nat→Prop:=fun x heap _=>zE (za heap) d x=some r
@[simp] theorem zpL (d:Nat) (r:IV) (x:AV):YV d r x heap next=(zE (za heap) d x=some r):=rfl
theorem aL.run {C:Ctx} {f:Nat} {F:dz} (hF:qo C f=some F.erase) {args:List IV} {r:IV} (d:Nat) (hn:args.length≤F.nt)
 (h:∀ B,gp C.plain ⟨F.nt,B⟩ F.body (VO F.results (YV d r)) {env:=jm 0 (args.map .ax),heap:=[],next:=0}):aL C f args r:=aL.of (d:=d) (bF.run hF (by simpa using hn) h)
variable {KA:AV→List (Nat×aG)→Nat→Prop}
@[simp] theorem zov (rs:List dL):VO rs KA .ret ⟨env,heap,next⟩=Xh KA heap next (jD rs ⟨env,heap,next⟩):=rfl
@[simp] theorem zk1 (rs:List dL):VO rs KA .normal ⟨env,heap,next⟩=Xh KA heap next (jD rs ⟨env,heap,next⟩):=rfl
@[simp] theorem zow (r:AV):Xh KA heap next (some r)=KA r heap next:=rfl
@[simp] theorem zox:Xh KA heap next none=False:=rfl
@[simp] theorem zoy (r:dL):jD [r] st=wJ st r:=rfl
@[simp] theorem zoz:jD [] st=some (.tuple []):=rfl
@[simp] theorem zoA (r s:dL) (l:List dL):jD (r::s::l) st=match aM (wJ st) (r::s::l) with
 | some xs=>some (.tuple xs)
 | none=>none:=rfl
@[simp] theorem znc (t:Nat):wJ ⟨env,heap,next⟩ (.tmp t)=za env t:=rfl
@[simp] theorem zm2 (t n:Nat) (ag:Bool):wJ ⟨env,heap,next⟩ (.cell t ag n)=match ai (.load ag n (.t t)) (zd env) (za heap) 0 with
 | some (r,_)=>some r
 | none=>none:=rfl
@[simp] theorem Oh (x:aZ):b8 C dst K ⟨env,heap,next⟩ (.dR x)=z8 dst K ⟨env,heap,next⟩ (ai (.dR x) (zd env) (za heap) next):=rfl
@[simp] theorem zoB (c a b:aZ):b8 C dst K ⟨env,heap,next⟩ (.pick c a b)=z8 dst K ⟨env,heap,next⟩ (ai (.pick c a b) (zd env) (za heap) next):=rfl
@[simp] theorem znd (sz:Nat) (af:List (List AV)):b8 C dst K ⟨env,heap,next⟩ (.alloc sz af)=z8 dst K ⟨env,heap,next⟩ (ai (.alloc sz af) (zd env) (za heap) next):=rfl
@[simp] theorem zo5 (sz:Nat) (x:aZ):b8 C dst K ⟨env,heap,next⟩ (.box sz x)=z8 dst K ⟨env,heap,next⟩ (ai (.box sz x) (zd env) (za heap) next):=rfl
@[simp] theorem zne (zero:List AV) (parts:List (Nat×Nat×aZ)):b8 C dst K ⟨env,heap,next⟩ (.build zero parts)=z8 dst K ⟨env,heap,next⟩ (ai (.build zero parts) (zd env) (za heap) next):=rfl
@[simp] theorem zm3 (sz:Nat) (zero:List AV) (len:Nat) (parts:List (Nat×aZ)):b8 C dst K ⟨env,heap,next⟩ (.cZ sz zero len parts)=z8 dst K ⟨env,heap,next⟩ (ai (.cZ sz zero len parts) (zd env) (za heap) next):=rfl
@[simp] theorem zoC (agg:Bool) (n:Nat) (x:aZ):b8 C dst K ⟨env,heap,next⟩ (.load agg n x)=z8 dst K ⟨env,heap,next⟩ (ai (.load agg n x) (zd env) (za heap) next):=rfl
@[simp] theorem znf (n:Nat) (x v:aZ):b8 C dst K ⟨env,heap,next⟩ (.store n x v)=z8 dst K ⟨env,heap,next⟩ (ai (.store n x v) (zd env) (za heap) next):=rfl
@[simp] theorem zo6 (off:Nat) (x:aZ):b8 C dst K ⟨env,heap,next⟩ (.nR off x)=z8 dst K ⟨env,heap,next⟩ (ai (.nR off x) (zd env) (za heap) next):=rfl
@[simp] theorem zo7 (sz:Nat) (x i:aZ):b8 C dst K ⟨env,heap,next⟩ (.idx sz x i)=z8 dst K ⟨env,heap,next⟩ (ai (.idx sz x i) (zd env) (za heap) next):=rfl
@[simp] theorem zoD (len sz:Nat) (x i:aZ):b8 C dst K ⟨env,heap,next⟩ (.idxa len sz x i)=z8 dst K ⟨env,heap,next⟩ (ai (.idxa len sz x i) (zd env) (za heap) next):=rfl
@[simp] theorem zo8 (op:BinOp) (x y:aZ):b8 C dst K ⟨env,heap,next⟩ (.bin op x y)=z8 dst K ⟨env,heap,next⟩ (ai (.bin op x y) (zd env) (za heap) next):=rfl
@[simp] theorem zo9 (neg:Bool) (x y:aZ):b8 C dst K ⟨env,heap,next⟩ (.oZ neg x y)=z8 dst K ⟨env,heap,next⟩ (ai (.oZ neg x y) (zd env) (za heap) next):=rfl
@[simp] theorem zpa (neg:Bool) (ks:List Nat) (x y:aZ):b8 C dst K ⟨env,heap,next⟩ (.eqs neg ks x y)=z8 dst K ⟨env,heap,next⟩ (ai (.eqs neg ks x y) (zd env) (za heap) next):=rfl
@[simp] theorem zng (neg:Bool) (x y:aZ):b8 C dst K ⟨env,heap,next⟩ (.eS neg x y)=z8 dst K ⟨env,heap,next⟩ (ai (.eS neg x y) (zd env) (za heap) next):=rfl
@[simp] theorem zpb (x:aZ):b8 C dst K ⟨env,heap,next⟩ (.not x)=z8 dst K ⟨env,heap,next⟩ (ai (.not x) (zd env) (za heap) next):=rfl
@[simp] theorem zpc (x:aZ):b8 C dst K ⟨env,heap,next⟩ (.neg x)=z8 dst K ⟨env,heap,next⟩ (ai (.neg x) (zd env) (za heap) next):=rfl
@[simp] theorem zoE (k:IntKind) (x:aZ):b8 C dst K ⟨env,heap,next⟩ (.conv k x)=z8 dst K ⟨env,heap,next⟩ (ai (.conv k x) (zd env) (za heap) next):=rfl
@[simp] theorem zpd (x:aZ):b8 C dst K ⟨env,heap,next⟩ (.len x)=z8 dst K ⟨env,heap,next⟩ (ai (.len x) (zd env) (za heap) next):=rfl
@[simp] theorem zoF (x:aZ):b8 C dst K ⟨env,heap,next⟩ (.lens x)=z8 dst K ⟨env,heap,next⟩ (ai (.lens x) (zd env) (za heap) next):=rfl
@[simp] theorem zoG (x:aZ):b8 C dst K ⟨env,heap,next⟩ (.lenm x)=z8 dst K ⟨env,heap,next⟩ (ai (.lenm x) (zd env) (za heap) next):=rfl
@[simp] theorem zpM (max:Bool) (x y:aZ):b8 C dst K ⟨env,heap,next⟩ (.mm max x y)=z8 dst K ⟨env,heap,next⟩ (ai (.mm max x y) (zd env) (za heap) next):=rfl
@[simp] theorem zpe (sz bG:Nat) (s x:aZ):b8 C dst K ⟨env,heap,next⟩ (.app sz bG s x)=z8 dst K ⟨env,heap,next⟩ (ai (.app sz bG s x) (zd env) (za heap) next):=rfl
@[simp] theorem zpf (x:aZ) (i:Nat):b8 C dst K ⟨env,heap,next⟩ (.ext x i)=z8 dst K ⟨env,heap,next⟩ (ai (.ext x i) (zd env) (za heap) next):=rfl
@[simp] theorem zpg (f:Nat) (first bp:List aZ):b8 C dst K ⟨env,heap,next⟩ (.pH f first bp)=z8 dst K ⟨env,heap,next⟩ (ai (.pH f first bp) (zd env) (za heap) next):=rfl
@[simp] theorem znh  : b8 C dst K ⟨env,heap,next⟩ (.eV)=z8 dst K ⟨env,heap,next⟩ (ai (.eV) (zd env) (za heap) next):=rfl
@[simp] theorem zoH (str:Bool) (zero:AV) (ok:Bool) (m k:aZ):b8 C dst K ⟨env,heap,next⟩ (.look str zero ok m k)=z8 dst K ⟨env,heap,next⟩ (ai (.look str zero ok m k) (zd env) (za heap) next):=rfl
@[simp] theorem zph (str:Bool) (m k v:aZ):b8 C dst K ⟨env,heap,next⟩ (.upd str m k v)=z8 dst K ⟨env,heap,next⟩ (ai (.upd str m k v) (zd env) (za heap) next):=rfl
@[simp] theorem zpi (str:Bool) (m k:aZ):b8 C dst K ⟨env,heap,next⟩ (.del str m k)=z8 dst K ⟨env,heap,next⟩ (ai (.del str m k) (zd env) (za heap) next):=rfl
@[simp] theorem zpj (sz bG:Nat) (zero:List AV) (n:aZ):b8 C dst K ⟨env,heap,next⟩ (.mks sz bG zero n)=z8 dst K ⟨env,heap,next⟩ (ai (.mks sz bG zero n) (zd env) (za heap) next):=rfl
@[simp] theorem zpk (sz:Nat) (x:aZ) (lo hi:Option aZ):b8 C dst K ⟨env,heap,next⟩ (.slc sz x lo hi)=z8 dst K ⟨env,heap,next⟩ (ai (.slc sz x lo hi) (zd env) (za heap) next):=rfl
@[simp] theorem zoI (neg:Bool) (x y:aZ):b8 C dst K ⟨env,heap,next⟩ (.eqnm neg x y)=z8 dst K ⟨env,heap,next⟩ (ai (.eqnm neg x y) (zd env) (za heap) next):=rfl
@[simp] theorem zpl (ag:Bool) (off n:Nat) (x:aZ):b8 C dst K ⟨env,heap,next⟩ (.cut ag off n x)=z8 dst K ⟨env,heap,next⟩ (ai (.cut ag off n x) (zd env) (za heap) next):=rfl
@[simp] theorem zpm (x:aZ):b8 C dst K ⟨env,heap,next⟩ (.o3 x)=z8 dst K ⟨env,heap,next⟩ (ai (.o3 x) (zd env) (za heap) next):=rfl
@[simp] theorem zoJ (sz:Nat) (d x:aZ):b8 C dst K ⟨env,heap,next⟩ (.copy sz d x)=z8 dst K ⟨env,heap,next⟩ (ai (.copy sz d x) (zd env) (za heap) next):=rfl
@[simp] theorem zpn (len sz:Nat) (x i:aZ):b8 C dst K ⟨env,heap,next⟩ (.ixa len sz x i)=z8 dst K ⟨env,heap,next⟩ (ai (.ixa len sz x i) (zd env) (za heap) next):=rfl
end
section
variable {C:bB} {nt:Fr} {env:List (Nat×AV)} {heap:List (Nat×aG)} {next:Nat} {dst:Option Nat} {K:St→Prop} {KD:List Nat→AV→List (Nat×aG)→Prop} {st:St}
@[simp] theorem zpN (ord:List Nat) (j:Nat) (W R:List (Nat×Nat)):lC C ord K [] j W R st=K st:=rfl
@[simp] theorem F4 (ord:List Nat) (it:aQ) (r:List aQ) (j:Nat) (W R:List (Nat×Nat)):lC C ord K (it::r) j W R st=rB C it (oB ord j W R it.dst st (lC C ord K r)) st:=rfl
@[simp] theorem zpO:rC C K [] st=K st:=rfl
@[simp] theorem zpo (it:aQ) (r:List aQ):rC C K (it::r) st=rB C it (BL it.dst st (rC C K r)) st:=rfl
@[simp] theorem F5 (op:cO):rB C ⟨dst,op,none⟩ KD st=dS C KD st op:=rfl
@[simp] theorem zpp (op:cO) (t:Nat) (want:Bool):rB C ⟨dst,op,some (t,want)⟩ KD st=sC C op KD st want ((za st.env t).getD .top):=rfl
@[simp] theorem zoK (op:cO) (want:Bool):sC C op KD st want .undef=KD [] .undef []:=rfl
@[simp] theorem zpq (op:cO) (b:Bool):sC C op KD st true (.ax (.bool b))=dG C op KD st b:=by simp [sC]
@[simp] theorem zoL (op:cO) (b:Bool):sC C op KD st false (.ax (.bool b))=dG C op KD st (!b):=by cases b<;>rfl
@[simp] theorem zpP (op:cO):dG C op KD st true=dS C KD st op:=rfl
@[simp] theorem zpr (op:cO):dG C op KD st false=KD [] .undef []:=rfl
@[simp] theorem zoM (rd:List Nat) (r:AV) (aO:List (Nat×aG)):qm KD rd (some (r,aO))=KD rd r aO:=rfl
@[simp] theorem zoN (rd:List Nat):qm KD rd none=False:=rfl
@[simp] theorem zps (ord:List Nat) (j:Nat) (W R:List (Nat×Nat)) (nx:Nat→List (Nat×Nat)→List (Nat×Nat)→St→Prop) (rd:List Nat) (r:AV) (aO:List (Nat×aG)) :
 oB ord j W R dst st nx rd r aO=(xn ord j W R (zY aO) rd=true∧nx (j+1) (qZ j (zY aO) W) (qZ j rd R) (st.after dst r aO)):=rfl
@[simp] theorem zoO (nx:St→Prop) (rd:List Nat) (r:AV):BL dst st nx rd r []=nx (st.after dst r []):=by simp [BL]
@[simp] theorem zpt (f:aZ) (args:List aZ):dS C KD ⟨env,heap,next⟩ (.call f args)=BM C KD heap (args.map (zd env)) (zd env f):=rfl
@[simp] theorem zni (args:List AV) (f:Nat) (first bp:List AV):BM C KD heap args (.func f first bp)=fU C f (first++args++bp) heap KD:=rfl
@[simp] theorem zpQ (x:aZ):dS C KD ⟨env,heap,next⟩ (.dR x)=qm KD (zk (.dR x) (zd env)) (ai (.dR x) (zd env) (za heap) next):=rfl
@[simp] theorem zpu (c a b:aZ):dS C KD ⟨env,heap,next⟩ (.pick c a b)=qm KD (zk (.pick c a b) (zd env)) (ai (.pick c a b) (zd env) (za heap) next):=rfl
@[simp] theorem zoP (sz:Nat) (af:List (List AV)):dS C KD ⟨env,heap,next⟩ (.alloc sz af)=qm KD (zk (.alloc sz af) (zd env)) (ai (.alloc sz af) (zd env) (za heap) next):=rfl
@[simp] theorem zpR (sz:Nat) (x:aZ):dS C KD ⟨env,heap,next⟩ (.box sz x)=qm KD (zk (.box sz x) (zd env)) (ai (.box sz x) (zd env) (za heap) next):=rfl
@[simp] theorem zoQ (zero:List AV) (parts:List (Nat×Nat×aZ)):dS C KD ⟨env,heap,next⟩ (.build zero parts)=qm KD (zk (.build zero parts) (zd env)) (ai (.build zero parts) (zd env) (za heap) next):=rfl
@[simp] theorem znj (sz:Nat) (zero:List AV) (len:Nat) (parts:List (Nat×aZ)):dS C KD ⟨env,heap,next⟩ (.cZ sz zero len parts)=qm KD (zk (.cZ sz zero len parts) (zd env)) (ai (.cZ sz zero len parts) (zd env) (za heap) next):=rfl
@[simp] theorem zpv (agg:Bool) (n:Nat) (x:aZ):dS C KD ⟨env,heap,next⟩ (.load agg n x)=qm KD (zk (.load agg n x) (zd env)) (ai (.load agg n x) (zd env) (za heap) next):=rfl
@[simp] theorem zoR (n:Nat) (x v:aZ):dS C KD ⟨env,heap,next⟩ (.store n x v)=qm KD (zk (.store n x v) (zd env)) (ai (.store n x v) (zd env) (za heap) next):=rfl
@[simp] theorem zpS (off:Nat) (x:aZ):dS C KD ⟨env,heap,next⟩ (.nR off x)=qm KD (zk (.nR off x) (zd env)) (ai (.nR off x) (zd env) (za heap) next):=rfl
@[simp] theorem zpT (sz:Nat) (x i:aZ):dS C KD ⟨env,heap,next⟩ (.idx sz x i)=qm KD (zk (.idx sz x i) (zd env)) (ai (.idx sz x i) (zd env) (za heap) next):=rfl
@[simp] theorem zpw (len sz:Nat) (x i:aZ):dS C KD ⟨env,heap,next⟩ (.idxa len sz x i)=qm KD (zk (.idxa len sz x i) (zd env)) (ai (.idxa len sz x i) (zd env) (za heap) next):=rfl
@[simp] theorem zpU (op:BinOp) (x y:aZ):dS C KD ⟨env,heap,next⟩ (.bin op x y)=qm KD (zk (.bin op x y) (zd env)) (ai (.bin op x y) (zd env) (za heap) next):=rfl
@[simp] theorem zpV (neg:Bool) (x y:aZ):dS C KD ⟨env,heap,next⟩ (.oZ neg x y)=qm KD (zk (.oZ neg x y) (zd env)) (ai (.oZ neg x y) (zd env) (za heap) next):=rfl
@[simp] theorem zpW (neg:Bool) (ks:List Nat) (x y:aZ):dS C KD ⟨env,heap,next⟩ (.eqs neg ks x y)=qm KD (zk (.eqs neg ks x y) (zd env)) (ai (.eqs neg ks x y) (zd env) (za heap) next):=rfl
@[simp] theorem zoS (neg:Bool) (x y:aZ):dS C KD ⟨env,heap,next⟩ (.eS neg x y)=qm KD (zk (.eS neg x y) (zd env)) (ai (.eS neg x y) (zd env) (za heap) next):=rfl
@[simp] theorem zpX (x:aZ):dS C KD ⟨env,heap,next⟩ (.not x)=qm KD (zk (.not x) (zd env)) (ai (.not x) (zd env) (za heap) next):=rfl
@[simp] theorem zpY (x:aZ):dS C KD ⟨env,heap,next⟩ (.neg x)=qm KD (zk (.neg x) (zd env)) (ai (.neg x) (zd env) (za heap) next):=rfl
@[simp] theorem zpx (k:IntKind) (x:aZ):dS C KD ⟨env,heap,next⟩ (.conv k x)=qm KD (zk (.conv k x) (zd env)) (ai (.conv k x) (zd env) (za heap) next):=rfl
@[simp] theorem zpZ (x:aZ):dS C KD ⟨env,heap,next⟩ (.len x)=qm KD (zk (.len x) (zd env)) (ai (.len x) (zd env) (za heap) next):=rfl
@[simp] theorem zpy (x:aZ):dS C KD ⟨env,heap,next⟩ (.lens x)=qm KD (zk (.lens x) (zd env)) (ai (.lens x) (zd env) (za heap) next):=rfl
@[simp] theorem zpz (x:aZ):dS C KD ⟨env,heap,next⟩ (.lenm x)=qm KD (zk (.lenm x) (zd env)) (ai (.lenm x) (zd env) (za heap) next):=rfl
@[simp] theorem zqa (max:Bool) (x y:aZ):dS C KD ⟨env,heap,next⟩ (.mm max x y)=qm KD (zk (.mm max x y) (zd env)) (ai (.mm max x y) (zd env) (za heap) next):=rfl
@[simp] theorem zp0 (sz bG:Nat) (s x:aZ):dS C KD ⟨env,heap,next⟩ (.app sz bG s x)=qm KD (zk (.app sz bG s x) (zd env)) (ai (.app sz bG s x) (zd env) (za heap) next):=rfl
@[simp] theorem zp1 (x:aZ) (i:Nat):dS C KD ⟨env,heap,next⟩ (.ext x i)=qm KD (zk (.ext x i) (zd env)) (ai (.ext x i) (zd env) (za heap) next):=rfl
@[simp] theorem zp2 (f:Nat) (first bp:List aZ):dS C KD ⟨env,heap,next⟩ (.pH f first bp)=qm KD (zk (.pH f first bp) (zd env)) (ai (.pH f first bp) (zd env) (za heap) next):=rfl
@[simp] theorem zoT  : dS C KD ⟨env,heap,next⟩ (.eV)=qm KD (zk (.eV) (zd env)) (ai (.eV) (zd env) (za heap) next):=rfl
@[simp] theorem zpA (str:Bool) (zero:AV) (ok:Bool) (m k:aZ):dS C KD ⟨env,heap,next⟩ (.look str zero ok m k)=qm KD (zk (.look str zero ok m k) (zd env)) (ai (.look str zero ok m k) (zd env) (za heap) next):=rfl
@[simp] theorem zp3 (str:Bool) (m k v:aZ):dS C KD ⟨env,heap,next⟩ (.upd str m k v)=qm KD (zk (.upd str m k v) (zd env)) (ai (.upd str m k v) (zd env) (za heap) next):=rfl
@[simp] theorem zp4 (str:Bool) (m k:aZ):dS C KD ⟨env,heap,next⟩ (.del str m k)=qm KD (zk (.del str m k) (zd env)) (ai (.del str m k) (zd env) (za heap) next):=rfl
@[simp] theorem zp5 (sz bG:Nat) (zero:List AV) (n:aZ):dS C KD ⟨env,heap,next⟩ (.mks sz bG zero n)=qm KD (zk (.mks sz bG zero n) (zd env)) (ai (.mks sz bG zero n) (zd env) (za heap) next):=rfl
@[simp] theorem zp6 (sz:Nat) (x:aZ) (lo hi:Option aZ):dS C KD ⟨env,heap,next⟩ (.slc sz x lo hi)=qm KD (zk (.slc sz x lo hi) (zd env)) (ai (.slc sz x lo hi) (zd env) (za heap) next):=rfl
@[simp] theorem zpB (neg:Bool) (x y:aZ):dS C KD ⟨env,heap,next⟩ (.eqnm neg x y)=qm KD (zk (.eqnm neg x y) (zd env)) (ai (.eqnm neg x y) (zd env) (za heap) next):=rfl
@[simp] theorem zp7 (ag:Bool) (off n:Nat) (x:aZ):dS C KD ⟨env,heap,next⟩ (.cut ag off n x)=qm KD (zk (.cut ag off n x) (zd env)) (ai (.cut ag off n x) (zd env) (za heap) next):=rfl
@[simp] theorem zp8 (x:aZ):dS C KD ⟨env,heap,next⟩ (.o3 x)=qm KD (zk (.o3 x) (zd env)) (ai (.o3 x) (zd env) (za heap) next):=rfl
@[simp] theorem zpC (sz:Nat) (d x:aZ):dS C KD ⟨env,heap,next⟩ (.copy sz d x)=qm KD (zk (.copy sz d x) (zd env)) (ai (.copy sz d x) (zd env) (za heap) next):=rfl
@[simp] theorem zp9 (len sz:Nat) (x i:aZ):dS C KD ⟨env,heap,next⟩ (.ixa len sz x i)=qm KD (zk (.ixa len sz x i) (zd env)) (ai (.ixa len sz x i) (zd env) (za heap) next):=rfl
end
end
section
section
variable {C:bB} {nt:Fr} {x:cy} {K:Exit→St→Prop} {st:St}
end
@[simp] theorem zjt {α:Type} {p:α→Prop}:(∀ x∈([]:List α),p x)=True:=by simp
theorem qz {x:Int} (h1 : -9223372036854775808≤x) (h2:x < 9223372036854775808):IntKind.i64.wrap x=x:=by
 simp [IntKind.wrap,IntKind.bits,IntKind.signed,Int.bmod_def]
 omega
theorem Oi {x:Int} (h1:0≤x) (h2:x < 18446744073709551616):IntKind.u64.wrap x=x:=by
 simp [IntKind.wrap,IntKind.bits,IntKind.signed]
 omega
end
section
def VP {α:Type}:List (Nat×α)→List (Nat×α)→List (Nat×α)
 | [],l=>l
 | (k,v)::r,l=>VP r (zo l k v)
@[simp] theorem znk {α:Type} (l:List (Nat×α)):VP [] l=l:=rfl
@[simp] theorem zm4 {α:Type} (k:Nat) (v:α) (r l:List (Nat×α)):VP ((k,v)::r) l=VP r (zo l k v):=rfl
section
variable {C:bB} {nt:Fr} {x:cy} {K:Exit→St→Prop}
end
end
section
theorem xh {α β:Type} {x:Option α} {f:α→Option β} {r:β} (h:x.bind f=some r):∃ a,x=some a∧f a=some r:=Option.bind_eq_some_iff.1 h
def zf {α:Type} (l:List α) (n:Int):Option α:=if 0≤n then l[n.toNat]? else none
theorem Xi {α:Type} {l:List α} {n:Int} {e:α} (h:zf l n=some e):0≤n∧l[n.toNat]?=some e∧n.toNat < l.length∧n < l.length∧∃ h:n.toNat < l.length,l[n.toNat]=e:=by
 unfold zf at h;split at h
 ·obtain ⟨h1,h2⟩:=ue.1 h
  exact ⟨‹_›,h,h1,by omega,h1,h2⟩
 ·cases h
theorem Oj {α:Type} {b:Bool} {x y:Option α} {r:α} (h:(bif b then x else y)=some r):(b=true∧x=some r)∨(b=false∧y=some r):=by
 cases b
 ·exact .inr ⟨rfl,h⟩
 ·exact .inl ⟨rfl,h⟩
theorem QD {C:bB} {nt:Fr} {o:List Nat} {items:List aQ} {ks:Option (List Nat)} {K:Exit→St→Prop} {st:St} (h:nv C items (ZA ks K) st):cG C nt (.region false o items ks) K st:=
 VD (Zg C items _ st h)
theorem F6 {C:bB} {nt:Fr} {o:List Nat} {items:List aQ} {ks:Option (List Nat)} {K:Exit→St→Prop} {st:St} (h:tI C (XY items) o items (ZA ks K) st):cG C nt (.region true o items ks) K st:=
 vz h
theorem Ol {C:bB} {nt:Fr} {c:aZ} {x y:cy} {K:Exit→St→Prop} {st:St} (b:Bool) (hc:zd st.env c=.ax (.bool b)) (h1:b=true→cG C nt x K st) (h2:b=false→cG C nt y K st):cG C nt (.cond c x y) K st:=
 xC b hc h1 h2
theorem Om {id:Nat} {K:Exit→St→Prop} {st:St} (h:K .normal st):xS id K (.exit id) st:=by
 simp only [N9,if_true];exact h
def bE {σ ρ:Type} (f:Nat→σ→Option (σ ⊕ ρ)):Nat→Nat→σ→Option (σ ⊕ ρ)
 | _,0,s=>some (.inl s)
 | i,k+1,s=>match f i s with
  | none=>none
  | some (.inr r)=>some (.inr r)
  | some (.inl s')=>bE f (i+1) k s'
def aH {σ ρ:Type} (n:Int) (f:Nat→σ→Option (σ ⊕ ρ)) (s:σ):Option (σ ⊕ ρ):=bif uN n.toNat 4611686018427387904 then bE f 0 n.toNat s else none
theorem ZB {σ ρ:Type} {n:Int} {f:Nat→σ→Option (σ ⊕ ρ)} {s:σ} (hn:n < 4611686018427387904):aH n f s=bE f 0 n.toNat s:=by
 have:uN n.toNat 4611686018427387904=true:=by simp only [Nat.blt_eq];omega
 unfold aH;rw [this];rfl
theorem Xj {σ ρ:Type} {n:Int} {f:Nat→σ→Option (σ ⊕ ρ)} {s:σ} {o:σ ⊕ ρ} (h:aH n f s=some o):n < 4611686018427387904∧bE f 0 n.toNat s=some o:=by
 unfold aH at h
 cases hb:uN n.toNat 4611686018427387904 with
 | true=>rw [hb] at h;simp only [Nat.blt_eq] at hb;exact ⟨by omega,h⟩
 | false=>rw [hb] at h;cases h
def BN {σ ρ:Type} (W:σ→St) (K:Exit→St→Prop) (out:σ ⊕ ρ) (o:σ ⊕ ρ):Exit→St→Prop
 | .normal,st=>∃ s',o=.inl s'∧bS st (W s')
 | e,st=>∃ y,o=.inr y∧(out=.inr y→K e st)
theorem On {C:bB} {nt:Fr} {x:cy} {K:Exit→St→Prop} {st:St} {σ ρ:Type} {n:Int} {f:Nat→σ→Option (σ ⊕ ρ)} {s0:σ} {out:σ ⊕ ρ} (hl:aH n f s0=some out)
  (E:Nat→σ→List (Nat×AV)) (H:Nat→σ→List (Nat×aG)) (h0:bS st ⟨E 0 s0,H 0 s0,st.next⟩)
  (body:∀ (i:Nat) (s:σ) (o:σ ⊕ ρ),(i:Int) < n→IntKind.i64.wrap ((i:Int)+1)=(i:Int)+1→f i s=some o→cG C nt x (BN (fun s=>⟨E (i+1) s,H (i+1) s,st.next⟩) K out o) ⟨E i s,H i s,st.next⟩)
  (last:∀ (m:Nat) (s:σ),¬ (m:Int) < n→out=.inl s→cG C nt x (vR (fun _=>False) K) ⟨E m s,H m s,st.next⟩):cG C nt (.loop x) K st:=by
 obtain ⟨hn,hl⟩:=Xj hl
 refine WR (ι:={p:Nat×σ // p.1≤n.toNat∧bE f p.1 (n.toNat - p.1) p.2=some out}) (fun p=>⟨E p.1.1 p.1.2,H p.1.1 p.1.2,st.next⟩) (fun p=>n.toNat - p.1.1) ⟨(0,s0),Nat.zero_le _,hl⟩ (fun _=>uk _) h0 (uk _) ?_
 rintro ⟨⟨i,s⟩,hi,hf⟩
 simp only at hi hf
 rcases uh i n.toNat with h | h
 ·obtain ⟨k,hk⟩:∃ k,n.toNat - i=k+1:=⟨n.toNat - i - 1,by omega⟩
  rw [hk] at hf
  simp only [bE] at hf
  split at hf
  ·cases hf
  ·rename_i r hr
   cases hf
   refine qY ?_ (body i s _ (by omega) (qz (by omega) (by omega)) hr)
   intro e aY hK
   cases e with
   | normal=>obtain ⟨s',h1,_⟩:=hK;cases h1
   | _=>obtain ⟨y,h1,h2⟩:=hK;cases h1;exact h2 rfl
  ·rename_i s' hr
   refine qY ?_ (body i s _ (by omega) (qz (by omega) (by omega)) hr)
   intro e aY hK
   cases e with
   | normal=>
    obtain ⟨s'',h1,h2⟩:=hK
    cases h1
    exact ⟨⟨(i+1,s'),h,by simp only;rw [show n.toNat - (i+1)=k by omega];exact hf⟩,by simp only;omega,h2⟩
   | _=>obtain ⟨y,h1,h2⟩:=hK;cases h1
 ·obtain rfl:i=n.toNat:=by omega
  simp only [Nat.sub_self,bE,Option.some.injEq] at hf
  refine qY ?_ (last n.toNat s (by omega) hf.symm)
  intro e aY hK
  cases e with
  | normal=>exact hK.elim
  | _=>exact hK
def cN {σ ρ:Type} (f:σ→Option (σ ⊕ ρ)):Nat→σ→Option ρ
 | 0,_=>none
 | k+1,s=>match f s with
  | none=>none
  | some (.inr r)=>some r
  | some (.inl s')=>cN f k s'
theorem Jk {σ ρ:Type} {f:σ→Option (σ ⊕ ρ)}:∀ {k:Nat} {s:σ} {r:ρ},cN f k s=some r→∀ {k':Nat},k≤k'→cN f k' s=some r
 | 0,_,_,h,_,_=>by cases h
 | k+1,s,r,h,k',hk=>by
  obtain ⟨m,rfl⟩:∃ m,k'=m+1:=⟨k' - 1,by omega⟩
  simp only [cN] at h ⊢
  split at h
  ·cases h
  ·exact h
  ·exact Jk h (by omega)
open Classical in
noncomputable def iter {σ ρ:Type} (f:σ→Option (σ ⊕ ρ)) (s:σ):Option ρ:=if h:∃ r,∃ k,cN f k s=some r then some h.choose else none
theorem ku {σ ρ:Type} {f:σ→Option (σ ⊕ ρ)} {s:σ} {r:ρ}:iter f s=some r↔∃ k,cN f k s=some r:=by
 unfold iter
 split
 ·rename_i h
  obtain ⟨k,hk⟩:=h.choose_spec
  simp only [Option.some.injEq]
  constructor
  ·intro e;exact ⟨k,by rw [←e];exact hk⟩
  ·rintro ⟨k',hk'⟩
   have h1:=Jk hk (uD k k')
   have h2:=Jk hk' (uz k k')
   rw [h1] at h2;exact Option.some.inj h2
 ·rename_i h
  constructor
  ·intro e;cases e
  ·rintro ⟨k,hk⟩;exact absurd ⟨r,k,hk⟩ h
theorem Oo {σ ρ:Type} (f:σ→Option (σ ⊕ ρ)) (s:σ):iter f s=match f s with
  | none=>none
  | some (.inr r)=>some r
  | some (.inl s')=>iter f s':=by
 apply Option.ext
 intro r
 rw [ku]
 constructor
 ·rintro ⟨k,hk⟩
  cases k with
  | zero=>cases hk
  | succ k=>
   simp only [cN] at hk
   split at hk
   ·cases hk
   ·exact hk
   ·exact ku.2 ⟨k,hk⟩
 ·intro h
  split at h
  ·cases h
  ·rename_i e;exact ⟨1,by simp only [cN,e];exact h⟩
  ·rename_i e
   obtain ⟨k,hk⟩:=ku.1 h
   exact ⟨k+1,by simp only [cN,e];exact hk⟩
theorem Oq {C:bB} {nt:Fr} {x:cy} {K:Exit→St→Prop} {st:St} {σ ρ:Type} {f:σ→Option (σ ⊕ ρ)} {s0:σ} {out:ρ} (hl:iter f s0=some out)
  (E:σ→List (Nat×AV)) (H:σ→List (Nat×aG)) (h0:bS st ⟨E s0,H s0,st.next⟩)
  (body:∀ (s:σ) (o:σ ⊕ ρ),f s=some o→cG C nt x (BN (fun s=>⟨E s,H s,st.next⟩) K (.inr out) o) ⟨E s,H s,st.next⟩):cG C nt (.loop x) K st:=by
 obtain ⟨k,hk⟩:=ku.1 hl
 refine WR (ι:={p:Nat×σ // cN f p.1 p.2=some out}) (fun p=>⟨E p.1.2,H p.1.2,st.next⟩) (fun p=>p.1.1) ⟨(k,s0),hk⟩ (fun _=>uk _) h0 (uk _) ?_
 rintro ⟨⟨i,s⟩,hf⟩
 simp only at hf
 cases i with
 | zero=>cases hf
 | succ i=>
  simp only [cN] at hf
  split at hf
  ·cases hf
  ·rename_i r hr
   cases hf
   refine qY ?_ (body s _ hr)
   intro e aY hK
   cases e with
   | normal=>obtain ⟨s',h1,_⟩:=hK;cases h1
   | _=>obtain ⟨y,h1,h2⟩:=hK;cases h1;exact h2 rfl
  ·rename_i s' hr
   refine qY ?_ (body s _ hr)
   intro e aY hK
   cases e with
   | normal=>obtain ⟨s'',h1,h2⟩:=hK;cases h1;exact ⟨⟨(i,s'),hf⟩,by simp only;omega,h2⟩
   | _=>obtain ⟨y,h1,h2⟩:=hK;cases h1
theorem aL.start {C:Ctx} {f:Nat} {F:dz} (hF:qo C f=some F.erase) {args:List IV} {r:IV} (d:Nat) (hn:args.length≤F.nt)
 (h:∀ B,cG C.plain ⟨F.nt,B⟩ F.body (VO F.results (YV d r)) {env:=jm 0 (args.map .ax),heap:=[],next:=0}):aL C f args r:=aL.of (d:=d) (bF.enter hF (by simpa using hn) (fun B=>qY (fun e st hk=>by
  have key:∀ {o:Option AV},Xh (YV d r) st.heap st.next o→∃ x,o=some x∧YV d r x st.heap st.next:=fun {o} ho=>by
   cases o with
   | none=>exact ho.elim
   | some x=>exact ⟨x,rfl,ho⟩
  cases e with
  | ret=>exact ⟨.inl rfl,key hk⟩
  | normal=>exact ⟨.inr rfl,key hk⟩
  | _=>exact hk.elim) (h B)))
end
section
def zb (n:Int):List IV:=[.int .i64 n]
def YW (k:IntKind) (n:Int):List IV:=[.int k n]
def zh (b:Bool):List IV:=[.bool b]
def xX (s:ByteArray):List IV:=[.str s]
def zM {α:Type} (f:α→List IV) (l:List α):List IV:=[.slice (l.map f)]
def zj (r:List IV):List AV:=r.map .ax
abbrev vI (n:Int):AV:=.ax (.int .i64 n)
abbrev vB (b:Bool):AV:=.ax (.bool b)
theorem Ot {α:Type} {b:Bool} {x y r:α} (g:b=true) (h:(bif b then x else y)=r):x=r:=by subst g;exact h
theorem Ou {α:Type} {b:Bool} {x y r:α} (g:b=false) (h:(bif b then x else y)=r):y=r:=by subst g;exact h
theorem Ov {C:bB} {nt:Fr} {c:aZ} {x y:cy} {K:Exit→St→Prop} {st:St} (hc:zd st.env c=.ax (.bool true)) (h1:cG C nt x K st):cG C nt (.cond c x y) K st:=
 xC true hc (fun _=>h1) (fun h=>by cases h)
theorem Ow {C:bB} {nt:Fr} {c:aZ} {x y:cy} {K:Exit→St→Prop} {st:St} (hc:zd st.env c=.ax (.bool false)) (h1:cG C nt y K st):cG C nt (.cond c x y) K st:=
 xC false hc (fun h=>by cases h) (fun _=>h1)
theorem F7 {n:St→Prop} {K:Exit→St→Prop} {id:Nat} {st:St} (h:K (.exit id) st):vR n K (.exit id) st:=h
theorem jp {n:St→Prop} {K:Exit→St→Prop} {st:St} (h:n st):vR n K .normal st:=h
theorem F8 {id:Nat} {K:Exit→St→Prop} {st:St} (h:K .normal st):xS id K .normal st:=h
def yr {α:Type} (l:List α) (a b:Int):Option (List α):=if 0≤a∧a≤b∧b≤(l.length:Int) then some ((l.take b.toNat).drop a.toNat) else none
theorem Ox {α:Type} {l:List α} {a b:Int} {e:List α} (h:yr l a b=some e):0≤a∧a≤b∧b≤(l.length:Int)∧(l.take b.toNat).drop a.toNat=e:=by
 unfold yr at h;split at h
 ·rename_i hh;exact ⟨hh.1,hh.2.1,hh.2.2,Option.some.inj h⟩
 ·cases h
def vi (k:IntKind) (a b:Int):Option Int:=if b=0 then none else some (a.tmod b)
theorem Oy {k:IntKind} {a b e:Int} (h:vi k a b=some e):¬ b=0∧a.tmod b=e:=by
 unfold vi at h;split at h
 ·cases h
 ·exact ⟨‹_›,Option.some.inj h⟩
attribute [simp] bne ai cellsOf yP ww XY zE xe qV vr j7 ZZ jl qt Qz xK jV xn qZ zY zk wh qb qN ea Nat.testBit jo zR xD zL zQ
attribute [simp] zb YW zh xX zM zj
end
section
def jq (φ:Nat→Nat):AV→AV
 | .aU i af=>.aU (φ i) af
 | .ptr i r o=>.ptr (φ i) r o
 | .Zak i o l=>.Zak (φ i) o l
 | .map i=>.map (φ i)
 | .eB l i=>.eB l (φ i)
 | x=>x
def Qv (φ:Nat→Nat):AV→AV
 | .func f a c=>.func f (a.map (jq φ)) (c.map (jq φ))
 | .agg cs=>.agg (cs.map (jq φ))
 | .tuple cs=>.tuple (cs.map (jq φ))
 | x=>jq φ x
def vT (φ:Nat→Nat):AV→AV
 | .tuple cs=>.tuple (cs.map (Qv φ))
 | x=>Qv φ x
def yV (φ:Nat→Nat) (row:List AV):List AV:=row.map (vT φ)
def Dw (φ:Nat→Nat) (e:IV×AV):IV×AV:=(e.1,vT φ e.2)
def qf (φ:Nat→Nat):aG→aG
 | .af sz af=>.af sz (af.map (yV φ))
 | .aV sz l=>.aV sz l
 | .map es=>.map (es.map (Dw φ))
 | .dead=>.dead
 | .lp l R s pe=>.lp l R s pe
def fC (φ:Nat→Nat):List (Nat×aG)→List (Nat×aG)
 | []=>[]
 | (k,o)::r=>(φ k,qf φ o)::fC φ r
def AF (φ:Nat→Nat) (l:List AV):List AV:=l.map (vT φ)
def Dx (C:Ctx) (f:Nat) (args:List AV) (heap:List (Nat×aG)) (next:Nat) (r:AV) (heap':List (Nat×aG)) (next':Nat):Prop:=
 bF C f args heap next fun x h n=>x=r∧h=heap'∧n=next'
section
variable {C:Ctx} {g g':Gh} {h h' h0:Nat→Option aG} {N N' N0:Nat→Prop} {w w':World} {φ:Nat→Nat}
structure Ren (φ:Nat→Nat) (N0:Nat→Prop) (g0:Gh) (h0:Nat→Option aG) (g:Gh) (h:Nat→Option aG):Prop where
 eb:∀ i,N0 i→g0.ρ i=g.ρ (φ i)
 zed:g0.Z=g.Z
theorem kw {g0:Gh} {m:Nat} (hr:∀ i,i < m→g0.ρ i=g.ρ (φ i)) (hz:g0.Z=g.Z) (hh:∀ i o,h0 i=some o→h (φ i)=some (qf φ o)) {x:AV} {v:Value} (hb:zL m x=true) (hv:RV C g h N w (jq φ x) v):RV C g0 h0 (· < m) w x v:=by
 cases x with
 | top=>exact .top v
 | undef=>simp only [jq] at hv;cases hv;exact .undef
 | ax y=>simp only [jq] at hv;cases hv with | ax _ _ hr'=>exact .ax _ _ (by rw [hz];exact hr')
 | nil=>simp only [jq] at hv;cases hv;exact .nil
 | cw=>simp only [jq] at hv;cases hv with | cw a cap=>exact .cw a cap
 | eB l id=>
  simp only [jq] at hv
  have hid:id < m:=by simpa [zL] using hb
  cases hv with
  | eB _ _ _ hp=>exact .eB l id hid fun R s pe h2=>by rw [hr id hid];exact hp R s pe (by rw [hh id _ h2];rfl)
 | aU id af=>
  simp only [jq] at hv
  have hid:id < m:=by simpa [zL] using hb
  cases hv with
  | aU _ _ _ hr' _ ht=>
   refine .aU id af v (by rw [hz];exact hr') hid fun sz len h1 => ?_
   obtain ⟨a1,a2,a3⟩:=ht sz len (by rw [hh id _ h1];rfl)
   refine ⟨a1,a2,fun e => ?_⟩
   rcases a3 e with ⟨b1,b2⟩ | ⟨b,cap,c,e',b1,b2,b3,b4⟩
   ·exact .inl ⟨by rw [hr id hid];exact b1,b2⟩
   ·exact .inr ⟨b,cap,c,e',by rw [hr id hid];exact b1,b2,b3,b4⟩
 | cz cells=>
  simp only [jq] at hv
  cases hv with
  | cz _ b off cv gL hc hr'=>exact .cz cells b off cv (by rw [hz];exact gL) hc (by rw [hz];exact hr')
 | ptr id row off=>
  simp only [jq] at hv
  have hid:id < m:=by simpa [zL] using hb
  cases hv with
  | ptr _ _ _ _ _ h1 hp=>
   refine .ptr id row off v hid h1 fun sz af h2 => ?_
   obtain ⟨b,b1,b2⟩:=hp sz _ (by rw [hh id _ h2];rfl)
   exact ⟨b,by rw [hr id hid];exact b1,b2⟩
 | Zak id off len=>
  simp only [jq] at hv
  have hid:id < m:=by simpa [zL] using hb
  cases hv with
  | Zak _ _ _ _ _ h1 hp=>
   refine .Zak id off len v hid h1 fun sz af h2 => ?_
   obtain ⟨b1,b2⟩:=hp sz _ (by rw [hh id _ h2];rfl)
   simp only [List.length_map] at b1
   refine ⟨b1,?_⟩
   rcases b2 with ⟨c1,c2,c3⟩ | ⟨b,cap,c,e,c1,c2,c3,c4,c5⟩
   ·exact .inl ⟨by rw [hr id hid];exact c1,by simpa using c2,c3⟩
   ·exact .inr ⟨b,cap,c,e,by rw [hr id hid];exact c1,c2,c3,c4,c5⟩
 | map id=>
  simp only [jq] at hv
  have hid:id < m:=by simpa [zL] using hb
  cases hv with
  | map _ _ _ h1 hp=>
   refine .map id v hid h1 fun es h2 => ?_
   obtain ⟨b,b1,b2⟩:=hp _ (by rw [hh id _ h2];rfl)
   exact ⟨b,by rw [hr id hid];exact b1,b2⟩
 | func=>cases hb
 | agg=>cases hb
 | tuple=>cases hb
theorem q7 {g0:Gh} {m:Nat} (hr:∀ i,i < m→g0.ρ i=g.ρ (φ i)) (hz:g0.Z=g.Z) (hh:∀ i o,h0 i=some o→h (φ i)=some (qf φ o)) {x:AV} {v:Value} (hb:xD m x=true) (hv:RV C g h N w (Qv φ x) v):RV C g0 h0 (· < m) w x v:=by
 cases x with
 | func f a c=>
  simp only [xD,um,ud] at hb
  simp only [Qv] at hv
  cases hv with
  | func _ _ _ vf vc hlf hlc hf hc=>
   refine .func f a c vf vc (by simpa using hlf) (by simpa using hlc) (fun i y u h1 h2 => ?_) (fun i y u h1 h2 => ?_)
   ·exact kw hr hz hh (hb.1 y (ua h1)) (hf i _ u (by rw [ub,h1];rfl) h2)
   ·exact kw hr hz hh (hb.2 y (ua h1)) (hc i _ u (by rw [ub,h1];rfl) h2)
 | agg cs=>
  simp only [xD,ud] at hb
  simp only [Qv] at hv
  cases hv with
  | agg _ vs hl h1 hr'=>
   exact .agg cs vs (by simpa using hl) h1 fun i y u e1 e2=>kw hr hz hh (hb y (ua e1)) (hr' i _ u (by rw [ub,e1];rfl) e2)
 | tuple cs=>
  simp only [xD,ud] at hb
  simp only [Qv] at hv
  cases hv with
  | tuple _ vs hl hr'=>
   exact .tuple cs vs (by simpa using hl) fun i y u e1 e2=>kw hr hz hh (hb y (ua e1)) (hr' i _ u (by rw [ub,e1];rfl) e2)
 | _=>exact kw hr hz hh hb hv
theorem YX {g0:Gh} {m:Nat} (hr:∀ i,i < m→g0.ρ i=g.ρ (φ i)) (hz:g0.Z=g.Z) (hh:∀ i o,h0 i=some o→h (φ i)=some (qf φ o)) {x:AV} {v:Value} (hb:zR m x=true) (hv:RV C g h N w (vT φ x) v):RV C g0 h0 (· < m) w x v:=by
 cases x with
 | tuple cs=>
  simp only [zR,ud] at hb
  simp only [vT] at hv
  cases hv with
  | tuple _ vs hl hr'=>
   exact .tuple cs vs (by simpa using hl) fun i y u e1 e2=>q7 hr hz hh (hb y (ua e1)) (hr' i _ u (by rw [ub,e1];rfl) e2)
 | top=>exact q7 (x:=.top) hr hz hh hb hv
 | undef=>exact q7 (x:=.undef) hr hz hh hb hv
 | ax y=>exact q7 (x:=.ax y) hr hz hh hb hv
 | nil=>exact q7 (x:=.nil) hr hz hh hb hv
 | cw=>exact q7 (x:=.cw) hr hz hh hb hv
 | aU a b=>exact q7 (x:=.aU a b) hr hz hh hb hv
 | cz a=>exact q7 (x:=.cz a) hr hz hh hb hv
 | ptr a b c=>exact q7 (x:=.ptr a b c) hr hz hh hb hv
 | Zak a b c=>exact q7 (x:=.Zak a b c) hr hz hh hb hv
 | map a=>exact q7 (x:=.map a) hr hz hh hb hv
 | func a b c=>exact q7 (x:=.func a b c) hr hz hh hb hv
 | agg a=>exact q7 (x:=.agg a) hr hz hh hb hv
 | eB a b=>exact q7 (x:=.eB a b) hr hz hh hb hv
theorem qP {g0:Gh} {m:Nat} (hr:∀ i,i < m→g.ρ (φ i)=g0.ρ i) (hz:g0.Z=g.Z) (hN:∀ i,i < m→N (φ i)) (hh:∀ i o,i < m→h (φ i)=some o→∃ o0,h0 i=some o0∧o=qf φ o0) {x:AV} {v:Value} (hb:zL m x=true) (hv:RV C g0 h0 (· < m) w x v):RV C g h N w (jq φ x) v:=by
 cases hv with
 | top=>cases v<;>exact .top _
 | undef=>exact .undef
 | ax y _ hr'=>exact .ax _ _ (by rw [←hz];exact hr')
 | nil=>exact .nil
 | cw a cap=>exact .cw a cap
 | eB l id hid hp=>
  refine .eB l (φ id) (hN id hid) fun R s pe h2 => ?_
  obtain ⟨o0,e0,e1⟩:=hh id _ hid h2
  cases o0<;>simp only [qf] at e1<;>cases e1
  rw [hr id hid];exact hp _ _ _ e0
 | aU id af _ hr' hid ht=>
  refine .aU (φ id) af v (by rw [←hz];exact hr') (hN id hid) fun sz len h1 => ?_
  obtain ⟨o0,e0,e1⟩:=hh id _ hid h1
  cases o0<;>simp only [qf] at e1<;>cases e1
  obtain ⟨a1,a2,a3⟩:=ht _ _ e0
  refine ⟨a1,a2,fun e => ?_⟩
  rcases a3 e with ⟨b1,b2⟩ | ⟨b,cap,c,e',b1,b2,b3,b4⟩
  ·exact .inl ⟨by rw [hr id hid];exact b1,b2⟩
  ·exact .inr ⟨b,cap,c,e',by rw [hr id hid];exact b1,b2,b3,b4⟩
 | cz cells b off cv gL hc hr'=>exact .cz cells b off cv (by rw [←hz];exact gL) hc (by rw [←hz];exact hr')
 | ptr id row off _ hid h1 hp=>
  refine .ptr (φ id) row off v (hN id hid) h1 fun sz af h2 => ?_
  obtain ⟨o0,e0,e1⟩:=hh id _ hid h2
  cases o0<;>simp only [qf] at e1<;>cases e1
  obtain ⟨b,b1,b2⟩:=hp _ _ e0
  exact ⟨b,by rw [hr id hid];exact b1,b2⟩
 | Zak id off len _ hid h1 hp=>
  refine .Zak (φ id) off len v (hN id hid) h1 fun sz af h2 => ?_
  obtain ⟨o0,e0,e1⟩:=hh id _ hid h2
  cases o0<;>simp only [qf] at e1<;>cases e1
  obtain ⟨b1,b2⟩:=hp _ _ e0
  refine ⟨by simpa using b1,?_⟩
  rcases b2 with ⟨c1,c2,c3⟩ | ⟨b,cap,c,e,c1,c2,c3,c4,c5⟩
  ·exact .inl ⟨by rw [hr id hid];exact c1,by rw [c2];rfl,c3⟩
  ·exact .inr ⟨b,cap,c,e,by rw [hr id hid];exact c1,c2,c3,c4,c5⟩
 | map id _ hid h1 hp=>
  refine .map (φ id) v (hN id hid) h1 fun es h2 => ?_
  obtain ⟨o0,e0,e1⟩:=hh id _ hid h2
  cases o0<;>simp only [qf] at e1<;>cases e1
  obtain ⟨b,b1,b2⟩:=hp _ e0
  exact ⟨b,by rw [hr id hid];exact b1,b2⟩
 | func=>cases hb
 | agg=>cases hb
 | tuple=>cases hb
theorem jx {g0:Gh} {m:Nat} (hr:∀ i,i < m→g.ρ (φ i)=g0.ρ i) (hz:g0.Z=g.Z) (hN:∀ i,i < m→N (φ i)) (hh:∀ i o,i < m→h (φ i)=some o→∃ o0,h0 i=some o0∧o=qf φ o0) {x:AV} {v:Value} (hb:xD m x=true) (hv:RV C g0 h0 (· < m) w x v):RV C g h N w (Qv φ x) v:=by
 cases x with
 | func f a c=>
  simp only [xD,um,ud] at hb
  simp only [Qv]
  cases hv with
  | func _ _ _ vf vc hlf hlc hf hc=>
   refine .func f _ _ vf vc (by simpa using hlf) (by simpa using hlc) (fun i y u h1 h2 => ?_) (fun i y u h1 h2 => ?_)
   ·rw [ub,uc] at h1
    obtain ⟨z,h1,rfl⟩:=h1
    exact qP hr hz hN hh (hb.1 z (ua h1)) (hf i z u h1 h2)
   ·rw [ub,uc] at h1
    obtain ⟨z,h1,rfl⟩:=h1
    exact qP hr hz hN hh (hb.2 z (ua h1)) (hc i z u h1 h2)
 | agg cs=>
  simp only [xD,ud] at hb
  simp only [Qv]
  cases hv with
  | agg _ vs hl h1 hr'=>
   refine .agg _ vs (by simpa using hl) h1 fun i y u e1 e2 => ?_
   rw [ub,uc] at e1
   obtain ⟨z,e1,rfl⟩:=e1
   exact qP hr hz hN hh (hb z (ua e1)) (hr' i z u e1 e2)
 | tuple cs=>
  simp only [xD,ud] at hb
  simp only [Qv]
  cases hv with
  | tuple _ vs hl hr'=>
   refine .tuple _ vs (by simpa using hl) fun i y u e1 e2 => ?_
   rw [ub,uc] at e1
   obtain ⟨z,e1,rfl⟩:=e1
   exact qP hr hz hN hh (hb z (ua e1)) (hr' i z u e1 e2)
 | top=>exact qP (x:=.top) hr hz hN hh hb hv
 | undef=>exact qP (x:=.undef) hr hz hN hh hb hv
 | ax y=>exact qP (x:=.ax y) hr hz hN hh hb hv
 | nil=>exact qP (x:=.nil) hr hz hN hh hb hv
 | cw=>exact qP (x:=.cw) hr hz hN hh hb hv
 | aU a b=>exact qP (x:=.aU a b) hr hz hN hh hb hv
 | cz a=>exact qP (x:=.cz a) hr hz hN hh hb hv
 | ptr a b c=>exact qP (x:=.ptr a b c) hr hz hN hh hb hv
 | Zak a b c=>exact qP (x:=.Zak a b c) hr hz hN hh hb hv
 | map a=>exact qP (x:=.map a) hr hz hN hh hb hv
 | eB a b=>exact qP (x:=.eB a b) hr hz hN hh hb hv
theorem Dy {g0:Gh} {m:Nat} (hr:∀ i,i < m→g.ρ (φ i)=g0.ρ i) (hz:g0.Z=g.Z) (hN:∀ i,i < m→N (φ i)) (hh:∀ i o,i < m→h (φ i)=some o→∃ o0,h0 i=some o0∧o=qf φ o0) {x:AV} {v:Value} (hb:zR m x=true) (hv:RV C g0 h0 (· < m) w x v):RV C g h N w (vT φ x) v:=by
 cases x with
 | tuple cs=>
  simp only [zR,ud] at hb
  simp only [vT]
  cases hv with
  | tuple _ vs hl hr'=>
   refine .tuple _ vs (by simpa using hl) fun i y u e1 e2 => ?_
   rw [ub,uc] at e1
   obtain ⟨z,e1,rfl⟩:=e1
   exact jx hr hz hN hh (hb z (ua e1)) (hr' i z u e1 e2)
 | top=>exact jx (x:=.top) hr hz hN hh hb hv
 | undef=>exact jx (x:=.undef) hr hz hN hh hb hv
 | ax y=>exact jx (x:=.ax y) hr hz hN hh hb hv
 | nil=>exact jx (x:=.nil) hr hz hN hh hb hv
 | cw=>exact jx (x:=.cw) hr hz hN hh hb hv
 | aU a b=>exact jx (x:=.aU a b) hr hz hN hh hb hv
 | cz a=>exact jx (x:=.cz a) hr hz hN hh hb hv
 | ptr a b c=>exact jx (x:=.ptr a b c) hr hz hN hh hb hv
 | Zak a b c=>exact jx (x:=.Zak a b c) hr hz hN hh hb hv
 | map a=>exact jx (x:=.map a) hr hz hN hh hb hv
 | func a b c=>exact jx (x:=.func a b c) hr hz hN hh hb hv
 | agg a=>exact jx (x:=.agg a) hr hz hN hh hb hv
 | eB a b=>exact jx (x:=.eB a b) hr hz hN hh hb hv
theorem Oz {g0:Gh} {m b:Nat} (hr:∀ i,i < m→g0.ρ i=g.ρ (φ i)) (hz:g0.Z=g.Z) (hh:∀ i o,h0 i=some o→h (φ i)=some (qf φ o)) {o:aG} (hb:zQ m o) (hv:cC C g h N w b (qf φ o)):cC C g0 h0 (· < m) w b o:=by
 cases o with
 | af sz af=>
  simp only [qf,cC] at hv ⊢
  obtain ⟨a1,c,e,a2,a3,a4⟩:=hv
  refine ⟨by rw [hz];exact a1,c,e,a2,fun i row h1 => ?_,fun i row j x h1 h2 => ?_⟩
  ·have:=a3 i (yV φ row) (by rw [ub,h1];rfl);simpa [yV] using this
  ·obtain ⟨cv,b1,b2,b3⟩:=a4 i (yV φ row) j (vT φ x) (by rw [ub,h1];rfl) (by simp only [yV];rw [ub,h2];rfl)
   exact ⟨cv,b1,b2,YX hr hz hh (hb row (ua h1) x (ua h2)) b3⟩
 | aV sz l=>simp only [qf,cC] at hv ⊢; rw [hz];exact hv
 | map es=>
  simp only [qf,cC] at hv ⊢
  obtain ⟨a1,bO,clock,a2,a3,a4⟩:=hv
  refine ⟨by rw [hz];exact a1,bO,clock,a2,⟨by simpa using a3.l,a3.s⟩,fun i k x h1 => ?_⟩
  obtain ⟨e,b1,b2,b3⟩:=a4 i k (vT φ x) (by rw [ub,h1];rfl)
  exact ⟨e,b1,b2,YX hr hz hh (hb _ (ua h1)) b3⟩
 | dead=>trivial
 | lp l R s pe=>simp only [qf,cC] at hv ⊢; rw [hz];exact hv
theorem OA {g0:Gh} {m b:Nat} (hr:∀ i,i < m→g.ρ (φ i)=g0.ρ i) (hz:g0.Z=g.Z) (hN:∀ i,i < m→N (φ i)) (hh:∀ i o,i < m→h (φ i)=some o→∃ o0,h0 i=some o0∧o=qf φ o0) {o:aG} (hb:zQ m o) (hv:cC C g0 h0 (· < m) w b o):cC C g h N w b (qf φ o):=by
 cases o with
 | af sz af=>
  simp only [qf,cC] at hv ⊢
  obtain ⟨a1,c,e,a2,a3,a4⟩:=hv
  refine ⟨by rw [←hz];exact a1,c,e,a2,fun i row h1 => ?_,fun i row j x h1 h2 => ?_⟩
  ·rw [ub,uc] at h1
   obtain ⟨z,h1,rfl⟩:=h1
   simpa [yV] using a3 i z h1
  ·rw [ub,uc] at h1
   obtain ⟨z,h1,rfl⟩:=h1
   simp only [yV] at h2
   rw [ub,uc] at h2
   obtain ⟨y,h2,rfl⟩:=h2
   obtain ⟨cv,b1,b2,b3⟩:=a4 i z j y h1 h2
   exact ⟨cv,b1,b2,Dy hr hz hN hh (hb z (ua h1) y (ua h2)) b3⟩
 | aV sz l=>simp only [qf,cC] at hv ⊢; rw [←hz];exact hv
 | map es=>
  simp only [qf,cC] at hv ⊢
  obtain ⟨a1,bO,clock,a2,a3,a4⟩:=hv
  refine ⟨by rw [←hz];exact a1,bO,clock,a2,⟨by simpa using a3.l,a3.s⟩,fun i k x h1 => ?_⟩
  rw [ub,uc] at h1
  obtain ⟨z,h1,h2⟩:=h1
  simp only [Dw] at h2
  cases h2
  obtain ⟨e,b1,b2,b3⟩:=a4 i z.1 z.2 h1
  exact ⟨e,b1,b2,Dy hr hz hN hh (hb _ (ua h1)) b3⟩
 | dead=>trivial
 | lp l R s pe=>simp only [qf,cC] at hv ⊢; rw [←hz];exact hv
theorem XZ {n:Nat} (inj:∀ i j,i < n→j < n→φ i=φ j→i=j):∀ {l:List (Nat×aG)},(∀ p∈l,p.1 < n)→∀ i,i < n→bz (fC φ l) h (φ i)=match za l i with
  | some o=>some (qf φ o)
  | none=>h (φ i)
 | [],_,i,hi=>rfl
 | (k,o)::r,hl,i,hi=>by
  simp only [fC,bz,za]
  by_cases e:k=i
  ·subst e;rw [if_pos rfl,if_pos rfl]
  ·rw [if_neg e,if_neg (fun h=>e (inj k i (hl (k,o) (by simp)) hi h))]
   exact XZ inj (fun p hp=>hl p (by simp [hp])) i hi
theorem yW {n:Nat}:∀ {l:List (Nat×aG)},(∀ p∈l,p.1 < n)→∀ j,(∀ i,i < n→φ i≠j)→bz (fC φ l) h j=h j
 | [],_,j,hj=>rfl
 | (k,o)::r,hl,j,hj=>by
  simp only [fC,bz]
  rw [if_neg (hj k (hl (k,o) (by simp)))]
  exact yW (fun p hp=>hl p (by simp [hp])) j hj
open Classical in
noncomputable def inv (φ:Nat→Nat) (n j:Nat):Option Nat:=if h:∃ i,i < n∧φ i=j then some h.choose else none
theorem OB {n i:Nat} (inj:∀ i j,i < n→j < n→φ i=φ j→i=j) (hi:i < n):inv φ n (φ i)=some i:=by
 unfold inv
 have h:∃ k,k < n∧φ k=φ i:=⟨i,hi,rfl⟩
 rw [dif_pos h]
 have:=h.choose_spec
 rw [inj _ _ this.1 hi this.2]
theorem qG {n i j:Nat} (h:inv φ n j=some i):i < n∧φ i=j:=by
 unfold inv at h
 split at h
 ·rename_i hh;cases h;exact hh.choose_spec
 ·cases h
theorem yt {n j:Nat} (h:inv φ n j=none):∀ i,i < n→φ i≠j:=by
 unfold inv at h
 split at h
 ·cases h
 ·rename_i hh;exact fun i hi e=>hh ⟨i,hi,e⟩
theorem frame {f m n1:Nat} {dI:List AV} {cr bL:List (Nat×aG)} {r0:AV} (hc:Dx C f dI cr m r0 bL n1)
  (rD:∀ p∈cr,p.1 < m∧zQ m p.2) (hka:∀ x∈dI,zR m x=true) (hk1:∀ p∈bL,p.1 < n1∧zQ n1 p.2) (gF:zR n1 r0=true)
  (hall:∀ i,i < m→(za bL i).isSome=true) (inj:∀ i j,i < n1→j < n1→φ i=φ j→i=j)
  (hB:∀ i o,za cr i=some o→h (φ i)=some (qf φ o)) (hN:∀ i,i < m→N (φ i)) (hfr:∀ i,m≤i→i < n1→¬ N (φ i)) (Dz:∀ j,N j→N' j) (BO:∀ i,i < n1→N' (φ i))
  {vs:List Value} (R:RH C g h N w) (hv:nG C g h N w (AF φ dI) vs) (hm:m≤n1) :
  Calls C.P (C.ed f) vs.toArray w fun e w'=>∃ v g',e=.returned v∧bW g h N w g' (bz (fC φ bL) h) N' w'∧RH C g' (bz (fC φ bL) h) N' w'∧RV C g' (bz (fC φ bL) h) N' w' (vT φ r0) v:=by
 let g0:Gh:=⟨fun i=>if i < m then g.ρ (φ i) else none,g.Z⟩
 have dV:∀ i,i < m→g0.ρ i=g.ρ (φ i):=fun i hi=>if_pos hi
 have fp:∀ i b,g0.ρ i=some b→i < m∧g.ρ (φ i)=some b:=fun i b hb=>by
  simp only [g0] at hb
  split at hb
  ·exact ⟨‹_›,hb⟩
  ·cases hb
 have hh0:∀ i o,za cr i=some o→i < m∧zQ m o:=fun i o ho=>rD (i,o) (jn ho)
 have R0:RH C g0 (za cr) (· < m) w:={
  inj:=fun i j b h1 h2=>by
   obtain ⟨a1,a2⟩:=fp i b h1
   obtain ⟨b1,b2⟩:=fp j b h2
   exact inj i j (by omega) (by omega) (R.inj _ _ b a2 b2)
  lt:=fun i b h1=>by
   obtain ⟨a1,a2⟩:=fp i b h1
   exact ⟨(R.lt _ b a2).1,a1⟩
  key:=fun i o ho=>(hh0 i o ho).1
  obj:=fun i b o h1 ho=>by
   obtain ⟨a1,a2⟩:=fp i b h1
   exact Oz dV rfl hB (hh0 i o ho).2 (R.obj _ b _ a2 (hB i o ho))
  cQ:=fun i sz len ho h1=>by
   have hi:=(hh0 i _ ho).1
   exact R.cQ (φ i) sz len (hB i _ ho) (by rw [←dV i hi];exact h1)
  dX:=R.dX
  fix:=⟨R.fix.1,R.fix.2.1,fun b hb ⟨i,hi⟩=>R.fix.2.2 b hb ⟨_,(fp i b hi).2⟩⟩}
 have gl:nG C g0 (za cr) (· < m) w dI vs:=⟨by have:=hv.1;simpa [AF] using this,fun j x u h1 h2=>
  YX dV rfl hB (hka x (ua h1)) (hv.2 j (vT φ x) u (by simp only [AF];rw [ub,h1];rfl) h2)⟩
 refine (hc.2 g0 w vs R0 gl).mono ?_
 rintro e w' ⟨v,r,hp1,nx,g1,rfl,⟨e1,e2,e3⟩,E0,R1,ct⟩
 rw [e2,e3] at E0 R1
 rw [e1,e2,e3] at ct
 clear e1 e2 e3
 have fK:∀ p∈bL,p.1 < n1:=fun p hp=>(hk1 p hp).1
 have ni:∀ i o,za bL i=some o→i < n1∧zQ n1 o:=fun i o ho=>hk1 (i,o) (jn ho)
 let g':Gh:=⟨fun j=>match inv φ n1 j with | some i=>g1.ρ i | none=>g.ρ j,g1.Z⟩
 have fZ:∀ i,i < n1→g'.ρ (φ i)=g1.ρ i:=fun i hi=>by simp only [g',OB inj hi]
 have mG:∀ j,inv φ n1 j=none→g'.ρ j=g.ρ j:=fun j hj=>by simp only [g',hj]
 have hin:∀ i,i < n1→bz (fC φ bL) h (φ i)=match za bL i with | some o=>some (qf φ o) | none=>h (φ i):=XZ inj fK
 have hoff:∀ j,inv φ n1 j=none→bz (fC φ bL) h j=h j:=fun j hj=>yW fK j (yt hj)
 have iy:∀ i o,i < n1→bz (fC φ bL) h (φ i)=some o→∃ o0,za bL i=some o0∧o=qf φ o0:=fun i o hi ho=>by
  rw [hin i hi] at ho
  cases ha:za bL i with
  | some o0=>rw [ha] at ho;simp only [Option.some.injEq] at ho;exact ⟨o0,rfl,ho.symm⟩
  | none=>
   rw [ha] at ho
   simp only at ho
   rcases uh i m with h1 | h1
   ·have:=hall i h1;rw [ha] at this;cases this
   ·exact absurd (R.key _ _ ho) (hfr i h1 hi)
 have tJ:∀ j,N j→∀ i,inv φ n1 j=some i→i < m:=fun j hj i hi=>by
  obtain ⟨h1,h2⟩:=qG hi
  rcases uh i m with h3 | h3
  ·exact h3
  ·exact absurd (by rw [h2];exact hj) (hfr i h3 h1)
 have E:bW g h N w g' (bz (fC φ bL) h) N' w':={
  os:=E0.os
  tape:=E0.tape
  output:=E0.output
  size:=E0.size
  old:=fun b hb ho=>E0.old b hb (fun ⟨i,hi⟩=>ho ⟨φ i,(fp i b hi).2⟩)
  own:=fun b ⟨j,hj⟩=>by
   cases hi:inv φ n1 j with
   | some i=>
    obtain ⟨h1,rfl⟩:=qG hi
    rw [fZ i h1] at hj
    rcases E0.own b ⟨i,hj⟩ with ⟨k,hk⟩ | hk
    ·exact .inl ⟨φ k,(fp k b hk).2⟩
    ·exact .inr hk
   | none=>rw [mG j hi] at hj;exact .inl ⟨j,hj⟩
  bY:=E0.bY
  cell:=E0.cell
  shape:=E0.shape
  next:=Dz
  eb:=fun j b hb o ho hnd hj=>by
   cases hi:inv φ n1 j with
   | some i=>
    have him:=tJ j hj i hi
    obtain ⟨h1,rfl⟩:=qG hi
    obtain ⟨o0,e0,rfl⟩:=iy i o h1 ho
    rw [fZ i h1]
    rcases E0.eb i b (by rw [dV i him];exact hb) o0 e0 (fun e=>hnd (by rw [e];rfl)) him with h3 | ⟨sz,l,sz',l',h3,h4,h5⟩
    ·exact .inl h3
    ·subst h4;exact .inr ⟨sz,l,sz',l',by rw [hB i _ h3];rfl,rfl,h5⟩
   | none=>rw [mG j hi];exact .inl hb
  cE:=fun j hb hj o ho hnd=>by
   cases hi:inv φ n1 j with
   | some i=>
    have him:=tJ j hj i hi
    obtain ⟨h1,rfl⟩:=qG hi
    obtain ⟨o0,e0,rfl⟩:=iy i o h1 ho
    rw [fZ i h1]
    rcases E0.cE i (by rw [dV i him];exact hb) him o0 e0 (fun e=>hnd (by rw [e];rfl)) with h3 | ⟨sz,l,sz',l',h3,h4,h5⟩
    ·exact .inl h3
    ·subst h4;exact .inr ⟨sz,l,sz',l',by rw [hB i _ h3];rfl,rfl,h5⟩
   | none=>rw [mG j hi];exact .inl hb
  af:=fun j hj sz af ho=>by
   cases hi:inv φ n1 j with
   | some i=>
    have him:=tJ j hj i hi
    obtain ⟨h1,rfl⟩:=qG hi
    obtain ⟨o0,e0,e1⟩:=iy i _ h1 ho
    cases o0<;>simp only [qf] at e1<;>cases e1
    obtain ⟨r2,h3,h4⟩:=E0.af i him _ _ e0
    exact ⟨_,by rw [hB i _ h3];rfl,by simpa using h4⟩
   | none=>rw [hoff j hi] at ho;exact ⟨af,ho,rfl⟩
  cR:=fun j hj sz len ho=>by
   cases hi:inv φ n1 j with
   | some i=>
    have him:=tJ j hj i hi
    obtain ⟨h1,rfl⟩:=qG hi
    obtain ⟨o0,e0,e1⟩:=iy i _ h1 ho
    cases o0<;>simp only [qf] at e1<;>cases e1
    obtain ⟨l2,h3,h4⟩:=E0.cR i him _ _ e0
    exact ⟨l2,by rw [hB i _ h3];rfl,h4⟩
   | none=>rw [hoff j hi] at ho;exact ⟨len,ho,uk _⟩
  maps:=fun j hj es ho=>by
   cases hi:inv φ n1 j with
   | some i=>
    have him:=tJ j hj i hi
    obtain ⟨h1,rfl⟩:=qG hi
    obtain ⟨o0,e0,e1⟩:=iy i _ h1 ho
    cases o0<;>simp only [qf] at e1<;>cases e1
    obtain ⟨e2,h3⟩:=E0.maps i him _ e0
    exact ⟨_,by rw [hB i _ h3];rfl⟩
   | none=>rw [hoff j hi] at ho;exact ⟨es,ho⟩
  fB:=fun j hj ll RR s pe ho=>by
   cases hi:inv φ n1 j with
   | some i=>
    have him:=tJ j hj i hi
    obtain ⟨h1,rfl⟩:=qG hi
    obtain ⟨o0,e0,e1⟩:=iy i _ h1 ho
    cases o0<;>simp only [qf] at e1<;>cases e1
    obtain ⟨e2,e3,h3⟩:=E0.fB i him _ _ _ _ e0
    exact ⟨_,_,by rw [hB i _ h3];rfl⟩
   | none=>rw [hoff j hi] at ho;exact ⟨s,pe,ho⟩}
 have hR:RH C g' (bz (fC φ bL) h) N' w':={
  inj:=fun i j b h1 h2=>by
   cases hi:inv φ n1 i with
   | some i0=>
    obtain ⟨a1,rfl⟩:=qG hi
    rw [fZ i0 a1] at h1
    cases hj:inv φ n1 j with
    | some j0=>
     obtain ⟨b1,rfl⟩:=qG hj
     rw [fZ j0 b1] at h2
     rw [R1.inj i0 j0 b h1 h2]
    | none=>
     rw [mG j hj] at h2
     rcases E0.own b ⟨i0,h1⟩ with ⟨k,hk⟩ | hk
     ·obtain ⟨k1,k2⟩:=fp k b hk
      have:=R.inj _ _ b k2 h2
      exact absurd this (yt hj k (by omega))
     ·have:=(R.lt j b h2).1;omega
   | none=>
    rw [mG i hi] at h1
    cases hj:inv φ n1 j with
    | some j0=>
     obtain ⟨b1,rfl⟩:=qG hj
     rw [fZ j0 b1] at h2
     rcases E0.own b ⟨j0,h2⟩ with ⟨k,hk⟩ | hk
     ·obtain ⟨k1,k2⟩:=fp k b hk
      have:=R.inj _ _ b k2 h1
      exact absurd this (yt hi k (by omega))
     ·have:=(R.lt i b h1).1;omega
    | none=>
     rw [mG j hj] at h2
     exact R.inj i j b h1 h2
  lt:=fun i b h1=>by
   cases hi:inv φ n1 i with
   | some i0=>
    obtain ⟨a1,rfl⟩:=qG hi
    rw [fZ i0 a1] at h1
    exact ⟨(R1.lt i0 b h1).1,BO i0 a1⟩
   | none=>
    rw [mG i hi] at h1
    obtain ⟨a1,a2⟩:=R.lt i b h1
    exact ⟨uv a1 E0.size,Dz i a2⟩
  key:=fun i o ho=>by
   cases hi:inv φ n1 i with
   | some i0=>obtain ⟨a1,rfl⟩:=qG hi;exact BO i0 a1
   | none=>rw [hoff i hi] at ho;exact Dz i (R.key i o ho)
  obj:=fun i b o h1 ho=>by
   cases hi:inv φ n1 i with
   | some i0=>
    obtain ⟨a1,rfl⟩:=qG hi
    rw [fZ i0 a1] at h1
    obtain ⟨o0,e0,rfl⟩:=iy i0 o a1 ho
    exact OA (fun i hi=>fZ i hi) rfl BO iy (ni i0 o0 e0).2 (R1.obj i0 b o0 h1 e0)
   | none=>
    rw [mG i hi] at h1
    rw [hoff i hi] at ho
    have hro:=R.obj i b o h1 ho
    have hno:¬ vL g0 b:=fun ⟨k,hk⟩=>by
     obtain ⟨k1,k2⟩:=fp k b hk
     exact yt hi k (by omega) (R.inj _ _ b k2 h1)
    obtain ⟨q1,q2⟩:=E0.old b (R.lt i b h1).1 hno
    have BP:g'.Z b=g.Z b:=q2
    cases o with
    | af sz af=>
     simp only [cC] at hro ⊢
     obtain ⟨a1,c,e,a2,a3,a4⟩:=hro
     refine ⟨by rw [BP];exact a1,c,e,by rw [q1];exact a2,a3,fun i row j x u1 u2 => ?_⟩
     obtain ⟨cv,b1,b2,b3⟩:=a4 i row j x u1 u2
     exact ⟨cv,b1,b2,b3.mono E⟩
    | aV sz l=>
     simp only [cC] at hro ⊢
     rw [q1,BP]
     exact hro
    | map es=>
     simp only [cC] at hro ⊢
     obtain ⟨a1,bO,clock,a2,a3,a4⟩:=hro
     refine ⟨by rw [BP];exact a1,bO,clock,by rw [q1];exact a2,a3,fun i k x u1 => ?_⟩
     obtain ⟨e,b1,b2,b3⟩:=a4 i k x u1
     exact ⟨e,b1,b2,b3.mono E⟩
    | dead=>trivial
    | lp l R s pe=>
     simp only [cC] at hro ⊢
     rw [q1,BP]
     exact hro
  cQ:=fun i sz len ho h1=>by
   cases hi:inv φ n1 i with
   | some i0=>
    obtain ⟨a1,rfl⟩:=qG hi
    rw [fZ i0 a1] at h1
    obtain ⟨o0,e0,e1⟩:=iy i0 _ a1 ho
    cases o0<;>simp only [qf] at e1<;>cases e1
    exact R1.cQ i0 _ _ e0 h1
   | none=>
    rw [mG i hi] at h1
    rw [hoff i hi] at ho
    exact R.cQ i sz len ho h1
  dX:=R1.dX
  fix:=R.fix.eO E}
 exact ⟨v,g',rfl,E,hR,Dy (fun i hi=>fZ i hi) rfl BO iy gF ct⟩
end
end
inductive cI:List Prop→Prop where
 | nil:cI []
 | cons {p:Prop} {ps:List Prop} (h:p) (t:cI ps):cI (p::ps)
theorem cI.app:∀ {ps qs:List Prop},cI (ps++qs)→cI ps∧cI qs
 | [],qs,h=>⟨.nil,h⟩
 | p::ps,qs,h=>by
  cases h with
  | cons h t=>exact ⟨.cons h (cI.app t).1,(cI.app t).2⟩
theorem cI.one {p:Prop} (h:cI [p]):p:=by cases h;assumption
structure cV (C:Ctx) (f:Nat) (dI:List AV) (cr:List (Nat×aG)) (m:Nat) (r0:AV) (bL:List (Nat×aG)) (d:Nat):Prop where
 dn:Dx C f dI cr m r0 bL (m+d)
 k0:∀ p∈cr,p.1 < m∧zQ m p.2
 ka:∀ x∈dI,zR m x=true
 k1:∀ p∈bL,p.1 < m+d∧zQ (m+d) p.2
 kr:zR (m+d) r0=true
 all:∀ i,i < m→(za bL i).isSome=true
 AG:∀ i,i < m→(za cr i).isSome=true
def fF (l:List Nat) (m next:Nat):Nat→Nat:=fun i=>if i < m then l.getD i 0 else next+(i - m)
def QE:List Nat→Bool
 | []=>true
 | x::r=>!(r.contains x)&&QE r
inductive gq (h0:List (Nat×aG)):List (Nat×aG)→List (Nat×aG)→Prop where
 | nil:gq h0 [] []
 | keep {k:Nat} {o:aG} {r s:List (Nat×aG)} (t:gq h0 r s):gq h0 ((k,o)::r) ((k,o)::s)
 | drop {k:Nat} {o:aG} {r s:List (Nat×aG)} (hk:za h0 k=some o) (hs:za s k=none) (t:gq h0 r s):gq h0 ((k,o)::r) s
theorem gq.get {h0 h1 h2:List (Nat×aG)} (t:gq h0 h1 h2):∀ i,za h1 i=za h2 i∨(za h2 i=none∧za h1 i=za h0 i):=by
 induction t with
 | nil=>exact fun i=>.inl rfl
 | keep t ih=>
  intro i
  simp only [za]
  split
  ·exact .inl rfl
  ·exact ih i
 | drop hk hs t ih=>
  intro i
  simp only [za]
  split
  ·rename_i e;subst e;exact .inr ⟨hs,hk.symm⟩
  ·exact ih i
theorem gq.sub {h0 h1 h2:List (Nat×aG)} (t:gq h0 h1 h2):∀ p∈h2,p∈h1:=by
 induction t with
 | nil=>exact fun p hp=>hp
 | keep t ih=>
  intro p hp
  rcases ui.1 hp with e | e
  ·rw [e];simp
  ·exact uj _ (ih p e)
 | drop hk hs t ih=>exact fun p hp=>uj _ (ih p hp)
theorem F9 {φ:Nat→Nat} {n:Nat} {h:Nat→Option aG} {h0 h1 h2:List (Nat×aG)} (inj:∀ i j,i < n→j < n→φ i=φ j→i=j) (hl:∀ p∈h1,p.1 < n) (hB:∀ i o,za h0 i=some o→h (φ i)=some (qf φ o)) (t:gq h0 h1 h2):bz (fC φ h1) h=bz (fC φ h2) h:=by
 funext j
 cases hj:inv φ n j with
 | some i=>
  obtain ⟨hi,rfl⟩:=qG hj
  rw [XZ inj hl i hi,XZ inj (fun p hp=>hl p (t.sub p hp)) i hi]
  rcases t.get i with e | ⟨e1,e2⟩
  ·rw [e]
  ·rw [e1,e2]
   cases ho:za h0 i with
   | none=>rfl
   | some o=>simp only;rw [hB i o ho]
 | none=>rw [yW hl j (yt hj),yW (fun p hp=>hl p (t.sub p hp)) j (yt hj)]
def lR (C:Ctx) (f:Nat) (args:List AV) (l:List Nat) (m next:Nat) (bT:List (Nat×aG)) (r:AV) (aO:List (Nat×aG)) (d:Nat):Prop:=
 ∃ dI cr r0 bL fV,cV C f dI cr m r0 bL d∧gq cr bL fV∧AF (fF l m next) dI=args∧fC (fF l m next) cr=bT∧vT (fF l m next) r0=r∧fC (fF l m next) fV=aO
theorem ze {C:Ctx} {f m d:Nat} {dI:List AV} {cr bL fV bT aO:List (Nat×aG)} {r0:AV} (hd:cV C f dI cr m r0 bL d) (l:List Nat) (next:Nat) (ht:gq cr bL fV) (ho:fC (fF l m next) cr=bT) (hu:fC (fF l m next) fV=aO) :
 lR C f (AF (fF l m next) dI) l m next bT (vT (fF l m next) r0) aO d:=⟨dI,cr,r0,bL,fV,hd,ht,rfl,ho,rfl,hu⟩
def x9 (heap:List (Nat×aG)):List Nat→Option (List (Nat×aG))
 | []=>some []
 | i::l=>match za heap i with
  | none=>none
  | some o=>match x9 heap l with
   | some r=>some ((i,o)::r)
   | none=>none
theorem kx {heap:List (Nat×aG)}:∀ {l:List Nat} {bT:List (Nat×aG)},x9 heap l=some bT→∀ p∈bT,za heap p.1=some p.2
 | [],bT,h=>by cases h;intro p hp;cases hp
 | i::l,bT,h=>by
  simp only [x9] at h
  split at h
  ·cases h
  ·rename_i o ho
   split at h
   ·rename_i r hr
    cases h
    intro p hp
    rcases ui.1 hp with rfl | hp
    ·exact ho
    ·exact kx hr p hp
   ·cases h
theorem X0 {φ:Nat→Nat}:∀ {l:List (Nat×aG)} {k:Nat} {o:aG},(k,o)∈l→(φ k,qf φ o)∈fC φ l
 | (k',o')::r,k,o,h=>by
  simp only [fC]
  rcases ui.1 h with h | h
  ·cases h;simp
  ·exact uj _ (X0 h)
theorem VQ:∀ {l:List Nat},QE l=true→∀ i j:Nat,i < l.length→j < l.length→l.getD i 0=l.getD j 0→i=j
 | [],_,i,j,hi,_,_=>by simp at hi
 | x::r,h,i,j,hi,hj,e=>by
  simp only [QE,um,uJ,List.contains_eq_mem,decide_eq_false_iff_not] at h
  have key:∀ k,k < r.length→r.getD k 0∈r:=fun k hk=>by simp [hk]
  cases i with
  | zero=>
   cases j with
   | zero=>rfl
   | succ j=>
    simp only [uH,uq] at e
    exact absurd (by rw [e];exact key j (by simpa using hj)) h.1
  | succ i=>
   cases j with
   | zero=>
    simp only [uH,uq] at e
    exact absurd (by rw [←e];exact key i (by simpa using hi)) h.1
   | succ j=>
    simp only [uq] at e
    rw [VQ h.2 i j (by simpa using hi) (by simpa using hj) e]
structure oC (l:List Nat) (m next:Nat):Prop where
 len:l.length=m
 nd:QE l=true
 lt:∀ x∈l,x < next
def ZC (l:List Nat) (m next:Nat):Bool:=l.length == m&&QE l&&l.all fun x=>decide (x < next)
theorem Ga {l:List Nat} {m next:Nat} (h:ZC l m next=true):oC l m next:=by
 simp only [ZC,um,beq_iff_eq,ud,decide_eq_true_eq] at h
 exact ⟨h.1.1,h.1.2,h.2⟩
theorem VR {l:List Nat} {m next:Nat} (P:oC l m next) {i:Nat} (hi:i < m):fF l m next i < next:=by
 simp only [fF,if_pos hi]
 exact P.lt _ (by simp [P.len,hi])
theorem X1 {l:List Nat} {m next:Nat} (P:oC l m next) (i j:Nat) (e:fF l m next i=fF l m next j):i=j:=by
 rcases uh i m with h1 | h1<;>rcases uh j m with h2 | h2
 ·simp only [fF,if_pos h1,if_pos h2] at e
  exact VQ P.nd i j (by rw [P.len];exact h1) (by rw [P.len];exact h2) e
 ·have:=VR P h1
  simp only [fF,if_neg (uw.2 h2)] at e this
  omega
 ·have:=VR P h2
  simp only [fF,if_neg (uw.2 h1)] at e this
  omega
 ·simp only [fF,if_neg (uw.2 h1),if_neg (uw.2 h2)] at e
  omega
theorem bF.dn {C:Ctx} {f m d next:Nat} {args:List AV} {heap bT aO:List (Nat×aG)} {l:List Nat} {r:AV} {K:AV→List (Nat×aG)→Nat→Prop} (hc:lR C f args l m next bT r aO d) (hp:ZC l m next=true) (ho:x9 heap l=some bT)
  (hK:K r (zG aO heap) (next+d)):bF C f args heap next K:=by
 obtain ⟨dI,cr,r0,bL,fV,D,T,rfl,rfl,rfl,rfl⟩:=hc
 have P:=Ga hp
 refine ⟨D.dn.1,fun g w vs R hv => ?_⟩
 have AH:=F9 (φ:=fF l m next) (n:=m+d) (h:=za heap) (fun i j _ _ e=>X1 P i j e) (fun p hp=>(D.k1 p hp).1) (fun i o hi=>kx ho _ (X0 (jn hi))) T
 have:=frame (φ:=fF l m next) (N':=(· < next+d)) D.dn D.k0 D.ka D.k1 D.kr D.all (fun i j _ _ e=>X1 P i j e)
  (fun i o hi=>kx ho _ (X0 (jn hi))) (fun i hi=>VR P hi) (fun i h1 _=>by simp only [fF,if_neg (uw.2 h1)];omega) (fun j hj=>by omega)
  (fun i hi=>by
   rcases uh i m with h1 | h1
   ·have:=VR P h1;omega
   ·simp only [fF,if_neg (uw.2 h1)];omega) R hv (by omega)
 refine this.mono ?_
 rintro e w' ⟨v,g',rfl,E,R',hr⟩
 refine ⟨v,_,_,_,g',rfl,hK,?_,?_,?_⟩
 ·rw [jK,←AH];exact E
 ·rw [jK,←AH];exact R'
 ·rw [jK,←AH];exact hr
theorem dA.dn {C:Ctx} {f m next d:Nat} {args:List AV} {heap bT aO:List (Nat×aG)} {l:List Nat} {r:AV} (hc:lR C f args l m next bT r aO d) (hp:ZC l m next=true) (ho:x9 heap l=some bT) :
  dA C f args (za heap) l r aO (uL next d):=by
 obtain ⟨dI,cr,r0,bL,fV,D,T,rfl,rfl,rfl,rfl⟩:=hc
 have P:=Ga hp
 refine ⟨D.dn.1,fun g h N w vs hag hex R hv => ?_⟩
 have hmem:∀ i o,za cr i=some o→h (fF l m next i)=some (qf (fF l m next) o):=fun i o hi=>by
  have hi':=(D.k0 _ (jn hi)).1
  rw [hag _ (by simp only [fF,if_pos hi'];simp [P.len,hi'])]
  exact kx ho _ (X0 (jn hi))
 have Gb:∀ i,i < m→N (fF l m next i):=fun i hi=>by
  obtain ⟨o,ho⟩:=Option.isSome_iff_exists.1 (D.AG i hi)
  exact R.key _ _ (hmem i o ho)
 have AH:=F9 (φ:=fF l m next) (n:=m+d) (h:=h) (fun i j _ _ e=>X1 P i j e) (fun p hp=>(D.k1 p hp).1) hmem T
 rw [←AH]
 have hnew:∀ i,m≤i→i < m+d→fF l m next i∈uL next d:=fun i h1 h2=>by
  rw [List.mem_range'_1];simp only [fF,if_neg (show ¬ i < m by omega)];omega
 exact frame (φ:=fF l m next) (N':=xg N (uL next d)) D.dn D.k0 D.ka D.k1 D.kr D.all (fun i j _ _ e=>X1 P i j e) hmem Gb (fun i h1 h2=>hex _ (hnew i h1 h2)) (fun j hj=>.inl hj)
  (fun i hi=>by
   rcases uh i m with h1 | h1
   ·exact .inl (Gb i h1)
   ·exact .inr (hnew i h1 hi)) R hv (by omega)
theorem fU.dn {C:Ctx} {f m next:Nat} {args:List AV} {heap bT aO:List (Nat×aG)} {l:List Nat} {r:AV} {KD:List Nat→AV→List (Nat×aG)→Prop} (hc:lR C f args l m next bT r aO 0) (hp:ZC l m next=true) (ho:x9 heap l=some bT)
 (hK:KD l r aO):fU C f args heap KD:=⟨l,_,_,dA.dn hc hp ho,hK⟩
def zc {α:Type} (f:α→List IV) (l:List α):List (List AV):=l.map fun x=>zj (f x)
theorem OC (φ:Nat→Nat) (r:List IV):yV φ (zj r)=zj r:=by
 simp only [yV,zj,uK]
 exact ur fun x _=>rfl
theorem OD {α:Type} (φ:Nat→Nat) (f:α→List IV) (l:List α):(zc f l).map (yV φ)=zc f l:=by
 simp only [zc,uK]
 exact ur fun x _=>OC φ (f x)
theorem bg {φ:Nat→Nat}:fC φ []=[]:=rfl
theorem bt {φ:Nat→Nat} {k:Nat} {o:aG} {r s:List (Nat×aG)} (h:fC φ r=s):fC φ ((k,o)::r)=(φ k,qf φ o)::s:=by rw [←h];rfl
theorem bA {φ:Nat→Nat} {k sz:Nat} {α:Type} {f:α→List IV} {l:List α} {r s:List (Nat×aG)} (h:fC φ r=s):fC φ ((k,.af sz (zc f l))::r)=(φ k,.af sz (zc f l))::s:=by
 rw [←h];simp only [fC,qf,OD]
theorem yX {α:Type} (m sz:Nat) (f:α→List IV) (l:List α):zQ m (.af sz (zc f l)):=by
 simp only [zQ,zc]
 intro row hr x hx
 obtain ⟨y,_,rfl⟩:=uu.1 hr
 obtain ⟨z,_,rfl⟩:=uu.1 hx
 rfl
def zg {α β:Type} (kf:α→IV) (vf:β→IV) (es:List (α×β)):List (IV×AV):=es.map fun e=>(kf e.1,.ax (vf e.2))
theorem OE {α β:Type} (φ:Nat→Nat) (kf:α→IV) (vf:β→IV) (es:List (α×β)):(zg kf vf es).map (Dw φ)=zg kf vf es:=by
 simp only [zg,uK]
 exact ur fun x _=>rfl
theorem gH {φ:Nat→Nat} {k:Nat} {α β:Type} {kf:α→IV} {vf:β→IV} {es:List (α×β)} {r s:List (Nat×aG)} (h:fC φ r=s):fC φ ((k,.map (zg kf vf es))::r)=(φ k,.map (zg kf vf es))::s:=by
 rw [←h];simp only [fC,qf,OE]
theorem OG {α β:Type} (m:Nat) (kf:α→IV) (vf:β→IV) (es:List (α×β)):zQ m (.map (zg kf vf es)):=by
 simp only [zQ,zg]
 intro e he
 obtain ⟨y,_,rfl⟩:=uu.1 he
 rfl
theorem OH {h0 h:Nat→Option aG} (hs:∀ i o,h0 i=some o→h i=some o):∀ (d:Nat) (x:AV) (y:IV),zE h0 d x=some y→zE h d x=some y:=by
 have AI:∀ {β γ:Type} {f f':β→Option γ},(∀ x y,f x=some y→f' x=some y)→∀ (l:List β) (r:List γ),aM f l=some r→aM f' l=some r:=by
  intro β γ f f' hf l
  induction l with
  | nil=>intro r h;exact h
  | cons a l ih=>
   intro r h
   simp only [aM] at h ⊢
   split at h
   ·rename_i b hb
    split at h
    ·rename_i bs rR
     cases h
     rw [hf _ _ hb]
     simp only
     rw [ih _ rR]
    ·cases h
   ·cases h
 intro d
 induction d with
 | zero=>intro x y h;cases h
 | succ d ih=>
  intro x y h
  cases x<;>simp only [zE] at h ⊢ <;> first | exact h | skip
  case map id=>
   split at h
   ·rename_i es ho
    rw [hs _ _ ho]
    simp only
    rw [uc] at h ⊢
    obtain ⟨out,h1,h2⟩:=h
    refine ⟨out,AI (fun e y he => ?_) _ _ h1,h2⟩
    rw [uc] at he ⊢
    obtain ⟨z,h3,h4⟩:=he
    exact ⟨z,ih _ _ h3,h4⟩
   ·cases h
  case Zak id off len=>
   split at h
   ·rename_i sz af ho
    rw [hs _ _ ho]
    simp only
    split at h
    ·rename_i hle
     rw [if_pos hle]
     rw [uc] at h ⊢
     obtain ⟨r,h1,h2⟩:=h
     exact ⟨r,AI (fun row ys hrow=>AI (fun x y hx=>ih x y hx) row ys hrow) _ _ h1,h2⟩
    ·cases h
   ·cases h
  case agg cs=>
   rw [uc] at h ⊢
   obtain ⟨r,h1,h2⟩:=h
   exact ⟨r,AI (fun x y hx=>ih x y hx) _ _ h1,h2⟩
  case tuple cs=>
   rw [uc] at h ⊢
   obtain ⟨r,h1,h2⟩:=h
   exact ⟨r,AI (fun x y hx=>ih x y hx) _ _ h1,h2⟩
theorem Jl {h0 h:Nat→Option aG} (hs:∀ i o,h0 i=some o→h i=some o) {d:Nat}:∀ {args:List AV} {dy:List IV},aM (zE h0 d) args=some dy→aM (zE h d) args=some dy
 | [],dy,h=>h
 | a::l,dy,h=>by
  simp only [aM] at h ⊢
  split at h
  ·rename_i b hb
   split at h
   ·rename_i bs rR
    cases h
    rw [OH hs d _ _ hb]
    simp only
    rw [Jl hs rR]
   ·cases h
  ·cases h
theorem Jm {heap:List (Nat×aG)} {l:List Nat} {bT:List (Nat×aG)} (h:x9 heap l=some bT) (i:Nat) (o:aG) (ho:za bT i=some o):za heap i=some o:=kx h _ (jn ho)
theorem dA.AJ {C:Ctx} {f d:Nat} {args:List AV} {heap bT:List (Nat×aG)} {l:List Nat} {dy:List IV} {r:IV} (hp:aL C f dy r) (ho:x9 heap l=some bT) (hl:∀ p∈bT,p.1∈l) (hx:aM (zE (za bT) d) args=some dy) (hf:xM r=true):dA C f args (za heap) l (.ax r) [] []:=by
 refine ⟨hp.1,fun g h N w vs hag hex R hv => ?_⟩
 have hsub:∀ i o,za bT i=some o→h i=some o:=fun i o hi=>by
  rw [hag i (hl _ (jn hi))];exact Jm ho i o hi
 have hx':aM (zE h d) args=some dy:=Jl hsub hx
 exact (dA.oy (h0:=h) hp hx' hf).2 g h N w vs (fun _ _=>rfl) hex R hv
theorem KR {heap:List (Nat×aG)}:∀ {l:List Nat} {bT:List (Nat×aG)},x9 heap l=some bT→∀ p∈bT,p.1∈l
 | [],bT,h=>by cases h;intro p hp;cases hp
 | i::l,bT,h=>by
  simp only [x9] at h
  split at h
  ·cases h
  ·rename_i o ho
   split at h
   ·rename_i r hr
    cases h
    intro p hp
    rcases ui.1 hp with rfl | hp
    ·simp
    ·exact uj _ (KR hr p hp)
   ·cases h
end Go.Proofs.YtgpojcfkanjabaaGreatDoor
