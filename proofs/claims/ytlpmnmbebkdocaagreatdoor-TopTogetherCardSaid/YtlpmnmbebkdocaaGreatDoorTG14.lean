/-
  region.Ranks: the queue.
  region.Ranks: all of it.
  A clause that has ended stays as it is; a breach stays a breach.
  RegionBreach: a breach is never left.
  What can be forced from a position, told without an arena.
  region.Safe and strategy's functions, told by positions.
  Games of parts of a contract: a position is safe exactly if all parts are safe in it.
  A contract inside another one with more acts: steps.
  A contract inside another one with more acts: games.
  'compose.Restrict', 'Lost' and 'Safe': what they return.
  A contract inside another one with more acts: arenas.
  strategy.Advise: what it returns.
  StrategyKeeps: the advice keeps the party safe.
  'compose.Advise': the advice by parts is that for the whole contract.
  A contract inside another one with more acts: waits.
  The parts of a contract are told by what ties clauses.
  The parts of two contracts together.
  Parts of two contracts together: those of the first.
  Parts of two contracts together: those of the second.
  The first states of two contracts together.
  Two contracts together: valid.
  The first states of the parts of two contracts together.
  Two contracts together: what is advised.
-/
import Derived.Test.YtlpmnmbebkdocaaGreatDoorTG13
open List renaming getElem?_eq_getElem → ua, mem_append → ub, getElem?_eq_some_iff → uc, getElem?_eq_none → ud, getElem?_map → ue, mem_map → uh, mem_range → ui, getElem_mem → uk, length_map → ul, length_append → um, mem_singleton → un, mem_filter → uo, range → ur, getElem?_append_right → ut, ext_getElem? → uu, getElem_of_mem → uv, map_congr_left → uw, getElem?_set_self → ux, filter_append → uy, length_filter_le → uz, getElem?_append_left → uA, nil_append → uB, take_succ_eq_append_getElem → uD, filter_congr → uE, getElem?_replicate → uF, all_eq_true → uG, length_range → uH, getElem?_mapIdx → uI, mem_of_getElem? → uJ, all_append → uK, map_append → uL, pairwise_of_forall_mem_list → uM, replicate → uO, find?_eq_some_iff_getElem → uP, append_nil → uQ, filter_sublist → uS, mem_cons → uU, length_cons → uV, map_map → uX, range_succ → uY, getElem?_set_ne → u0, range_add → u5, Pairwise → u6, find?_eq_none → u7, all_eq_false → Ua, nodup_range → Ub, take_length → Uc, not_mem_nil → Ud, length_nil → Uf, set_set → Uh, all_map → Ui
open Option renaming map_some → uC, map_eq_some_iff → uW, bind → uZ
open Bool renaming not_eq_true' → ug, and_eq_true → uj, eq_iff_iff → uR, or_eq_true → Ug
open Nat renaming lt_or_ge → uq, le_refl → Ue
open Int renaming toNat_of_nonneg → uT, le_refl → u4, add_sub_cancel → u9
open Sum renaming elim_inl → uN
namespace Go.Proofs.YtlpmnmbebkdocaaGreatDoor
open Go.RowKit
set_option linter.unusedSimpArgs false
set_option linter.unusedVariables false
set_option maxRecDepth 100000
section
section
variable {c:aq} {aj:Int} {p:aG} {a:b9}
theorem LH {x:Int} {l:List Int} (nx:Int) (h:l.length≤4000):ko x l nx=some (l++[x]):=by
 unfold ko
 rw [yq (by simp;omega)];rfl
theorem YH {x:Nat} {v:Int} {r l:List Int} {n:Nat} (nx:Int) (hx:x < n) (hr:r.length=n) (h:l.length≤4000):kp (x:Int) v r n l nx=some (l++[(x:Int)],r.set x v):=by
 unfold kp
 rw [zM hx]
 simp only [bf]
 rw [yb (by omega),LH nx h];rfl
def tA (G:Gm) (r:Nat→Int) (m:Nat):Prop:=∀ i,i < G.n→r i≤m
theorem zi3 (hc:c.Ok) (A:bY c aj p a) {r o:List Int} {P Q:List Nat} {u x:Nat} {cn:Nat→Nat} (nx:Int) (hr:r.length=(gm c a).n) (ho:o.length=(gm c a).n)
  (h:fH (gm c a) (at_ r) (at_ o) P u Q cn) (hb:tA (gm c a) (at_ r) (P++u::Q).length) (hx:x < (gm c a).n) (Cw:cn x < ((gm c a).succ x).count u) :
  ay (QN (x:Int) (u:Int) o (gm c a).n r (gm c a).n a (cst (P++u::Q)) nx) (fun z=>z.1.length=(gm c a).n∧z.2.1.length=(gm c a).n∧∃ Q',z.2.2=cst (P++u::Q')∧fH (gm c a) (at_ z.2.1) (at_ z.1) P u Q' (upd cn x (cn x+1))∧tA (gm c a) (at_ z.2.1) (P++u::Q').length):=by
 have hn:(gm c a).n≤1500:=A.F.inv.len
 have hroom:=h.room hx Cw
 have hop:=h.core.op x hx
 have tS:=A.EL hc x hx
 have hcp:(((gm c a).succ x).countP (yt P))≤((gm c a).succ x).length:=List.countP_le_length
 have hKn:(P++u::Q).length≤(gm c a).n:=by
  have:=ZK (L2:=ur (gm c a).n) h.core.nd (fun y hy=>ui.2 (h.core.lt y hy))
  rwa [uH] at this
 obtain ⟨hu,hun,Cc,_,_⟩:=h.core.split
 have hgu:=h.core.ge u hun
 have Cv:=h.core.ge x hx
 have hbu:=hb u hun
 have hw1:IntKind.i64.wrap (at_ o x - 1)=at_ o x - 1:=qf (by omega) (by omega)
 have pu:IntKind.i64.wrap (at_ r u+1)=at_ r u+1:=qf (by omega) (by omega)
 have EM:at_ (o.set x (at_ o x - 1))=upd (at_ o) x (at_ o x - 1):=ZL (by omega) _
 have cZ:(o.set x (at_ o x - 1))[x]?=some (at_ o x - 1):=ux (by omega)
 have hown:(gm c a).own x=(a.aY[x]'(hx)).own:=by
  show (match a.aY[x]? with | some q=>q.own | none=>false)=_
  rw [ua (show x < a.aY.length from hx)]
  rfl
 have hidx:ze a.aY (x:Int)=some (a.aY[x]'hx):=zB (ua (show x < a.aY.length from hx))
 unfold QN
 refine ay.ax (zM hx) ?_
 refine ay.ax (yb (by omega)) ?_
 rw [hw1]
 by_cases e1:at_ r x = -1
 ·have Cy:(at_ r x == -1)=true:=by rw [e1];rfl
  by_cases e2:(gm c a).own x=false∨at_ o x - 1=0
  ·refine ay.ax (v:=true) ?_ ?_
   ·rw [zM hx]
    simp only [bf]
    rw [yb (by omega:x < r.length)]
    simp only [bf,Cy,cond_true,hidx]
    rw [←hown]
    rcases e2 with e2 | e2
    ·rw [e2];rfl
    ·rw [cZ]
     simp only [bf,e2]
     cases (gm c a).own x<;>rfl
   ·refine ay.ite (fun _ => ?_) (fun h=>by cases h)
    refine ay.ax (zM hun) ?_
    refine ay.ax (yb (by omega)) ?_
    rw [pu]
    refine ay.ax (YH nx hx hr (by rw [Zn];omega)) ?_
    refine ay.some ⟨by simp [ho],by simp [hr],Q++[x],?_,?_,?_⟩
    ·rw [show P++u::(Q++[x])=(P++u::Q)++[x] by simp];exact (Wv (P++u::Q) [x]).symm
    ·rw [EM,ZL (by omega)]
     exact h.settle A.closed hx Cw e1 e2
    ·intro i hi
     simp only
     rw [ZL (by omega)]
     have:=hb i hi
     unfold upd
     simp only [um,uV,Uf] at this hbu ⊢
     split<;>omega
  ·refine ay.ax (v:=false) ?_ ?_
   ·rw [zM hx]
    simp only [bf]
    rw [yb (by omega:x < r.length)]
    simp only [bf,Cy,cond_true,hidx]
    rw [←hown]
    have e3:(gm c a).own x=true:=by
     cases hq:(gm c a).own x with
     | true=>rfl
     | false=>exact absurd (.inl hq) e2
    rw [e3,cZ]
    simp only [bf,cond_true]
    rw [beq_eq_false_iff_ne.2 (fun h=>e2 (.inr h))]
   ·refine ay.ite (fun h=>by cases h) (fun _ => ?_)
    refine ay.some ⟨by simp [ho],hr,Q,rfl,?_,hb⟩
    rw [EM]
    exact h.skip hx Cw (.inr ⟨by cases hq:(gm c a).own x with
     | true=>rfl
     | false=>exact absurd (.inl hq) e2,fun h=>e2 (.inr h)⟩)
 ·have Cy:(at_ r x == -1)=false:=beq_eq_false_iff_ne.2 e1
  refine ay.ax (v:=false) ?_ ?_
  ·rw [zM hx]
   simp only [bf]
   rw [yb (by omega:x < r.length)]
   simp only [bf,Cy,cy]
  ·refine ay.ite (fun h=>by cases h) (fun _ => ?_)
   refine ay.some ⟨by simp [ho],hr,Q,rfl,?_,hb⟩
   rw [EM]
   exact h.skip hx Cw (.inl e1)
theorem zkI {l:List Nat} {k:Nat} (hl:l.length≤4000) (hk:k≤l.length):wN (cst l) (k:Int)=some (match l[k]? with | some u=>((u:Int),true,(k:Int)+1) | none=>(0,false,(k:Int))):=by
 unfold wN
 rw [Zn]
 by_cases e:k=l.length
 ·rw [e,ud (Ue _)];simp
 ·have h:k < l.length:=by omega
  have w1:IntKind.i64.wrap ((k:Int)+1)=(k:Int)+1:=qf (by omega) (by omega)
  have w2:IntKind.i64.wrap ((k:Int)+1 - 1)=(k:Int):=by rw [show (k:Int)+1 - 1=(k:Int) by omega];exact qf (by omega) (by omega)
  rw [beq_eq_false_iff_ne.2 (show (k:Int)≠(l.length:Int) by omega),w1,w2,ua h]
  simp only [cy]
  rw [zB (l:=cst l) (i:=k) (e:=(l[k]:Int)) (by unfold cst;rw [ue,ua h];rfl)]
  rfl
end
end
section
section
variable {c:aq} {aj:Int} {p:aG} {a:b9}
def xW (G:Gm) (i:Nat):Bool:=G.own i&&(!(G.lost i)&&(G.succ i).isEmpty)
def r2 (G:Gm) (i j:Nat):Int:=if G.lost j=true then 0 else if xW G j=true∧j < i then 1 else -1
def K2 (G:Gm) (i:Nat):List Nat:=(ur G.n).filter G.lost++(ur i).filter (xW G)
structure L3 (G:Gm) (i:Nat) (s:List Int×List Int):Prop where
 lr:s.1.length=G.n
 r:∀ j,j < G.n→at_ s.1 j=r2 G i j
 k:s.2=cst (K2 G i)
theorem zmT (G:Gm) (i:Nat):(K2 G i).length≤G.n+i:=by
 unfold K2
 rw [um]
 have h1:=uz G.lost (ur G.n)
 have h2:=uz (xW G) (ur i)
 rw [uH] at h1 h2
 omega
theorem zhs {G:Gm} {r o:Nat→Int} (hr:∀ j,j < G.n→r j=r2 G G.n j) (ho:∀ j,j < G.n→o j=((G.succ j).length:Int)):l6 G r o [] (K2 G G.n)∧tA G r (K2 G G.n).length:=by
 have tl:∀ j,xW G j=true→G.own j=true∧G.lost j=false∧G.succ j=[]:=fun j h=>by
  simpa [xW,uj,List.isEmpty_iff] using h
 have rl:∀ j,j < G.n→G.lost j=true→r j=0:=fun j hj h=>by rw [hr j hj];unfold r2;rw [if_pos h]
 have rt:∀ j,j < G.n→xW G j=true→r j=1:=fun j hj h=>by
  rw [hr j hj];unfold r2;rw [if_neg (by rw [(tl j h).2.1];simp),if_pos ⟨h,hj⟩]
 have rn:∀ j,j < G.n→G.lost j=false→xW G j=false→r j = -1:=fun j hj h h2=>by
  rw [hr j hj];unfold r2;rw [if_neg (by rw [h];simp),if_neg (by rw [h2];simp)]
 have three:∀ j,j < G.n→(G.lost j=true∧r j=0)∨(xW G j=true∧G.lost j=false∧r j=1)∨(G.lost j=false∧xW G j=false∧r j = -1):=fun j hj=>by
  cases h:G.lost j with
  | true=>exact .inl ⟨rfl,rl j hj h⟩
  | false=>cases h2:xW G j with
   | true=>exact .inr (.inl ⟨rfl,rfl,rt j hj h2⟩)
   | false=>exact .inr (.inr ⟨rfl,rfl,rn j hj h h2⟩)
 have hm:∀ j,j∈K2 G G.n↔j < G.n∧(G.lost j=true∨xW G j=true):=fun j=>by
  unfold K2
  rw [ub,uo,uo,ui]
  constructor
  ·rintro (⟨h1,h2⟩ | ⟨h1,h2⟩)
   ·exact ⟨h1,.inl h2⟩
   ·exact ⟨h1,.inr h2⟩
  ·rintro ⟨h1,h2 | h2⟩
   ·exact .inl ⟨h1,h2⟩
   ·exact .inr ⟨h1,h2⟩
 have hle:∀ x∈K2 G G.n,r x≤1∧0≤r x:=fun x hx=>by
  obtain ⟨h1,h2⟩:=(hm x).1 hx
  rcases three x h1 with ⟨_,h⟩ | ⟨_,_,h⟩ | ⟨h3,h4,h⟩
  ·omega
  ·omega
  ·rw [h3,h4] at h2;simp at h2
 refine ⟨⟨⟨?_,fun x hx=>((hm x).1 hx).1,fun i hi => ?_,fun i hi => ?_,?_,fun i hi => ?_,fun i hi => ?_,fun i hi h1 h2 h3 => ?_,fun i hi h1 h2 h3 => ?_,fun i hi h1 h2 h3 => ?_,fun i hi h1 h2 h3=>⟨fun t ht h=>(by cases h),rfl⟩⟩,fun q Q' hq x hx => ?_⟩,fun i hi => ?_⟩
 ·rw [uB]
  unfold K2
  refine List.nodup_append.2 ⟨List.nodup_range.sublist uS,List.nodup_range.sublist uS,fun x hx y hy e => ?_⟩
  subst e
  have h1:=(uo.1 hx).2
  have h2:=(tl x (uo.1 hy).2).2.1
  rw [h1] at h2;cases h2
 ·rw [uB,hm i]
  rcases three i hi with ⟨h1,h⟩ | ⟨h1,_,h⟩ | ⟨h3,h4,h⟩
  ·rw [h];simp [hi,h1]
  ·rw [h];simp [hi,h1]
  ·rw [h];simp [h3,h4]
 ·rcases three i hi with ⟨_,h⟩ | ⟨_,_,h⟩ | ⟨_,_,h⟩<;>omega
 ·rw [uB]
  unfold K2
  refine List.pairwise_append.2 ⟨?_,?_,fun x hx y hy => ?_⟩
  ·refine uM fun x hx y hy => ?_
   have h1:=(uo.1 hx);have h2:=(uo.1 hy)
   rw [rl x (ui.1 h1.1) h1.2,rl y (ui.1 h2.1) h2.2];omega
  ·refine uM fun x hx y hy => ?_
   have h1:=(uo.1 hx);have h2:=(uo.1 hy)
   rw [rt x (ui.1 h1.1) h1.2,rt y (ui.1 h2.1) h2.2];omega
  ·have h1:=(uo.1 hx);have h2:=(uo.1 hy)
   rw [rl x (ui.1 h1.1) h1.2,rt y (ui.1 h2.1) h2.2];omega
 ·rw [ho i hi]
  have:(G.succ i).countP (yt [])=(G.succ i).length:=List.countP_eq_length.2 fun x _=>by simp [yt]
  rw [this];simp
 ·rcases three i hi with ⟨h1,h⟩ | ⟨_,h1,h⟩ | ⟨h1,_,h⟩<;>rw [h,h1]<;>simp
 ·rcases three i hi with ⟨h4,h⟩ | ⟨h4,_,h⟩ | ⟨_,_,h⟩
  ·rw [h2] at h4;cases h4
  ·have h5:=(tl i h4).2.2
   rw [ho i hi,h5,h]
   exact ⟨rfl,fun t ht=>(by cases ht),.inl ⟨rfl,rfl⟩⟩
  ·exact absurd h h3
 ·rw [ho i hi]
  intro h5
  have h6:G.succ i=[]:=List.eq_nil_of_length_eq_zero (by omega)
  have h7:=rt i hi (by simp [xW,h1,h2,h6])
  omega
 ·rcases three i hi with ⟨h4,h⟩ | ⟨h4,_,h⟩ | ⟨_,_,h⟩
  ·rw [h2] at h4;cases h4
  ·have h5:=(tl i h4).1;rw [h1] at h5;cases h5
  ·exact absurd h h3
 ·rw [uB] at hx
  have h1:=(hle x hx).1
  have h2:=(hle q (by rw [hq];simp)).2
  omega
 ·rcases three i hi with ⟨_,h⟩ | ⟨h1,_,h⟩ | ⟨_,_,h⟩
  ·omega
  ·have:0 < (K2 G G.n).length:=List.length_pos_of_mem ((hm i).2 ⟨hi,.inr h1⟩)
   omega
  ·omega
structure QI (G:Gm) (ed:List (List Int)) (s:Int×Bool×List Int×List Int×List Int×Int):Prop where
 lr:s.2.2.1.length=G.n
 lo:s.2.2.2.1.length=G.n
 inv:∃ P Q,l6 G (at_ s.2.2.1) (at_ s.2.2.2.1) P Q∧tA G (at_ s.2.2.1) (P++Q).length∧s.2.2.2.2.1=cst (P++Q)∧((s.2.1=false∧Q=[]∧s.2.2.2.2.2=(P.length:Int))∨(s.2.1=true∧∃ u Q',Q=u::Q'∧s.1=(u:Int)∧s.2.2.2.2.2=(P.length:Int)+1))
theorem YI {l:List Nat} {k:Nat} (hk:k < l.length) (x:Nat):(l.take (k+1)).count x=upd (fun y=>(l.take k).count y) l[k] ((l.take k).count l[k]+1) x:=by
 rw [uD hk,List.count_append]
 unfold upd
 by_cases e:x=l[k]
 ·rw [if_pos e,e];simp
 ·rw [if_neg e,List.count_cons_of_ne (fun h=>e h.symm)];simp
theorem zht {l:List Nat} {k:Nat} (hk:k < l.length):(fun y=>(l.take (k+1)).count y)=upd (fun y=>(l.take k).count y) l[k] ((l.take k).count l[k]+1):=funext fun x=>YI hk x
theorem LI {G:Gm} {ed:List (List Int)} {P Q:List Nat} {r o:List Int} (hn:G.n≤1500) (hr:r.length=G.n) (ho:o.length=G.n) (h:l6 G (at_ r) (at_ o) P Q) (hb:tA G (at_ r) (P++Q).length) :
  ∃ z:Int×Bool×Int,wN (cst (P++Q)) (P.length:Int)=some z∧QI G ed (z.1,z.2.1,r,o,cst (P++Q),z.2.2)∧((z.2.1=false∧z.2.2=(P.length:Int))∨(z.2.1=true∧z.2.2=(P.length:Int)+1))∧P.length≤G.n:=by
 have hK:(P++Q).length≤G.n:=by
  have:=ZK (L2:=ur G.n) h.core.nd (fun y hy=>ui.2 (h.core.lt y hy))
  rwa [uH] at this
 refine ⟨_,zkI (by omega) (by simp),?_⟩
 cases Q with
 | nil=>
  rw [uQ,ud (Ue _)]
  exact ⟨⟨hr,ho,P,[],h,hb,by rw [uQ],.inl ⟨rfl,rfl,rfl⟩⟩,.inl ⟨rfl,rfl⟩,by simpa using hK⟩
 | cons u Q'=>
  rw [ut (Ue _),Nat.sub_self]
  exact ⟨⟨hr,ho,P,u::Q',h,hb,rfl,.inr ⟨rfl,u,Q',rfl,rfl,rfl⟩⟩,.inr ⟨rfl,rfl⟩,by rw [um] at hK;omega⟩
theorem zhv (hc:c.Ok) (A:bY c aj p a):ay (yy c a) (fun r=>r.length=a.aY.length∧Xo (gm c a) (at_ r)∧∀ i,i < a.aY.length→at_ r i≤1500):=by
 have hn:a.aY.length≤1500:=A.F.inv.len
 have tB:(gm c a).n=a.aY.length:=rfl
 unfold yy
 refine ay.ax (zcE hc A) ?_
 refine ay.ite (fun _ => ?_) (fun h=>by cases h)
 refine ay.ax (QT hn (by omega)) ?_
 refine ay.ax (QT hn (by omega)) ?_
 refine ay.ax (QT hn (by omega)) ?_
 refine ay.bind (P:=fun o:(List Int×List Int×List (List Int)×List Int) ⊕ Unit=>∃ s,o=.inl s∧L2 (gm c a) a.aY.length s) (ay.eE (L2 (gm c a)) (by omega) ?_ (fun i s hi hs => ?_) (fun s h=>⟨s,rfl,h⟩)) ?_
 ·refine ⟨by simp [tB],by simp [tB],⟨by simp [tB],fun t ht=>⟨[],?_,by simp,fun x => ?_⟩⟩,fun j hj=>by omega,fun j hj=>by omega,rfl⟩
  ·rw [uF,if_pos (by rw [←tB];exact ht)];rfl
  ·simp
 ·obtain ⟨R,O,B,K⟩:=s
  obtain ⟨hlr,hlo,oG,hr,ho,hk⟩:=hs
  simp only at hlr hlo oG hr ho hk ⊢
  obtain ⟨T,hT,hM⟩:=A.mv hi
  have Bz:=A.len hc hi hT
  have eF:=A.succ hi hT
  have oH:(gm c a).lost i=q5 c a.aY[i].state a.aj:=by
   show (match a.aY[i]? with | some q=>q5 c q.state a.aj | none=>false)=_
   rw [ua hi]
  refine ay.bind (P:=fun v=>L2 (gm c a) (i+1) v) ?_ (fun v hv=>ay.some hv)
  refine ay.ax (zB (ua hi)) ?_
  refine ay.ax (zB hT) ?_
  refine ay.ax (zM hi) ?_
  refine ay.ax (yb (by omega)) ?_
  refine ay.ax (zM hi) ?_
  refine ay.ax (yb (by omega)) ?_
  refine ay.ax (zB hT) ?_
  refine ay.bind (P:=fun o:List (List Int) ⊕ Unit=>∃ b,o=.inl b∧L1 (gm c a) i T.length b) (ay.eE (fun k b=>L1 (gm c a) i k b) (by omega) oG (fun k b hk2 hb => ?_) (fun b h=>⟨b,rfl,h⟩)) ?_
  ·have hto:=A.to hi hT (uk hk2)
   refine ay.ax (zB (ua hk2)) ?_
   have h1:(gm c a).succ i=T.map fun m=>m.to.toNat:=eF
   have h2:=hb.step (G:=gm c a) hn hi (by omega) (to:=T[k].to.toNat) (by rw [h1,ue,ua hk2];rfl) (by rw [tB];omega)
   rw [uT hto.1] at h2
   exact ay.bind h2 (fun v hv=>ay.some hv)
  ·rintro _ ⟨b,rfl,hb⟩
   simp only [uN]
   have hb':=hb.next (by rw [eF,ul]) Bz
   have hR1:at_ (R.set i (-1))=upd (at_ R) i (-1):=ZL (by omega) _
   have LJ:at_ (O.set i (T.length:Int))=upd (at_ O) i (T.length:Int):=ZL (by omega) _
   have LK:∀ j,j < i+1→upd (at_ O) i (T.length:Int) j=(((gm c a).succ j).length:Int):=fun j hj=>by
    unfold upd
    by_cases e:j=i
    ·rw [if_pos e,e,eF,ul]
    ·rw [if_neg e];exact ho j (by omega)
   have oI:(ur (i+1)).filter (gm c a).lost=(ur i).filter (gm c a).lost++(bif (gm c a).lost i then [i] else []):=by
    rw [uY,uy]
    cases h:(gm c a).lost i<;>simp [h]
   refine ay.ax (zmS hc (A.F.inv.vs _ (uk hi)) a.aj) ?_
   refine ay.ite (fun hl => ?_) (fun hl => ?_)
   ·rw [←oH] at hl
    refine ay.ax (zM hi) ?_
    refine ay.ax (ux (by omega)) ?_
    have hK:K.length≤1500:=by
     rw [hk,Zn]
     have:=uz (gm c a).lost (ur i)
     rw [uH] at this;omega
    refine ay.ax (LH 0 (by omega)) ?_
    refine ay.some ⟨by simp [hlr],by simp [hlo],hb',fun j hj => ?_,fun j hj => ?_,?_⟩
    ·simp only
     rw [Uh,ZL (by omega)]
     unfold upd
     by_cases e:j=i
     ·rw [if_pos e,e,if_pos hl]
     ·rw [if_neg e];exact hr j (by omega)
    ·simp only;rw [LJ];exact LK j hj
    ·simp only;rw [hk,oI,hl,cond_true,Wv];rfl
   ·rw [←oH] at hl
    refine ay.some ⟨by simp [hlr],by simp [hlo],hb',fun j hj => ?_,fun j hj => ?_,?_⟩
    ·simp only
     rw [hR1]
     unfold upd
     by_cases e:j=i
     ·rw [if_pos e,e,if_neg (by rw [hl];simp)]
     ·rw [if_neg e];exact hr j (by omega)
    ·simp only;rw [LJ];exact LK j hj
    ·simp only;rw [hk,oI,hl,cy,uQ]
 ·rintro _ ⟨⟨R,O,B,K⟩,rfl,hlr,hlo,oG,hr,ho,hk⟩
  simp only [uN] at hlr hlo oG hr ho hk ⊢
  refine ay.bind (P:=fun o:(List Int×List Int) ⊕ Unit=>∃ s,o=.inl s∧L3 (gm c a) a.aY.length s) (ay.eE (L3 (gm c a)) (by omega) ?_ (fun i s hi hs => ?_) (fun s h=>⟨s,rfl,h⟩)) ?_
  ·refine ⟨hlr,fun j hj => ?_,?_⟩
   ·rw [hr j hj];unfold r2
    split
    ·rfl
    ·rw [if_neg (by omega)]
   ·simp only;rw [hk];unfold K2;rw [List.range_zero,List.filter_nil,uQ];rfl
  ·obtain ⟨R1,K1⟩:=s
   obtain ⟨h1,h2,h3⟩:=hs
   simp only at h1 h2 h3 ⊢
   have hown:(gm c a).own i=a.aY[i].own:=by
    show (match a.aY[i]? with | some q=>q.own | none=>false)=_
    rw [ua hi]
   have hsame:xW (gm c a) i=false→L3 (gm c a) (i+1) (R1,K1):=fun ht=>by
    refine ⟨h1,fun j hj => ?_,?_⟩
    ·simp only;rw [h2 j hj];unfold r2
     split
     ·rfl
     ·by_cases e:j=i
      ·subst e;rw [if_neg (by rw [ht];simp),if_neg (by rw [ht];simp)]
      ·by_cases e2:xW (gm c a) j=true∧j < i
       ·rw [if_pos e2,if_pos ⟨e2.1,by omega⟩]
       ·rw [if_neg e2,if_neg (fun h=>e2 ⟨h.1,by have:=h.2;omega⟩)]
    ·simp only;rw [h3];unfold K2;rw [uY,uy];simp [ht]
   refine ay.bind (P:=fun v=>L3 (gm c a) (i+1) v) ?_ (fun v hv=>ay.some hv)
   refine ay.ax (zB (ua hi)) ?_
   have EE:(bif a.aY[i].own then (uZ (zh a.aY.length (i:Int)) fun k7=>(uZ (O[k7]?) fun e9=>(bif (e9 == 0) then (uZ (zh a.aY.length (i:Int)) fun k8=>(uZ (R1[k8]?) fun dR=>some (dR == (-1)))) else some false))) else some false)=some (xW (gm c a) i):=by
    rw [zM hi]
    simp only [bf]
    rw [yb (by omega:i < O.length),yb (by omega:i < R1.length)]
    simp only [bf]
    rw [ho i hi,h2 i hi,←hown]
    unfold xW r2
    cases e1:(gm c a).own i with
    | false=>rfl
    | true=>
     cases e2:(gm c a).succ i with
     | cons x l=>
      rw [beq_eq_false_iff_ne.2 (by simp;omega)];simp
     | nil=>
      cases e3:(gm c a).lost i with
      | true=>rfl
      | false=>simp
   refine ay.ax EE ?_
   refine ay.ite (fun ht => ?_) (fun ht=>ay.some (hsame ht))
   have EO:K1.length≤4000:=by
    rw [h3,Zn]
    have:=zmT (gm c a) i
    omega
   refine ay.ax (YH 0 hi h1 EO) ?_
   refine ay.some ⟨by simp [h1],fun j hj => ?_,?_⟩
   ·simp only
    rw [ZL (by omega)]
    unfold upd
    by_cases e:j=i
    ·subst e
     have h4:(gm c a).lost j=false:=by
      simp only [xW,uj,ug] at ht;exact ht.2.1
     rw [if_pos rfl];unfold r2;rw [if_neg (by rw [h4];simp),if_pos ⟨ht,by omega⟩]
    ·rw [if_neg e,h2 j hj];unfold r2
     split
     ·rfl
     ·by_cases e2:xW (gm c a) j=true∧j < i
      ·rw [if_pos e2,if_pos ⟨e2.1,by omega⟩]
      ·rw [if_neg e2,if_neg (fun h=>e2 ⟨h.1,by have:=h.2;omega⟩)]
   ·simp only;rw [h3];unfold K2;rw [uY,uy,←List.append_assoc,Wv];simp [ht,cst]
  ·rintro _ ⟨⟨R1,K1⟩,rfl,h1,h2,h3⟩
   simp only [uN] at h1 h2 h3 ⊢
   obtain ⟨hB,hbd⟩:=zhs (G:=gm c a) (r:=at_ R1) (o:=at_ O) h2 ho
   have hQ0:=LI (ed:=B) (P:=[]) hn h1 hlo hB (by rw [uB];exact hbd)
   refine ay.bind (P:=fun v:List Int=>v.length=(gm c a).n∧Xo (gm c a) (at_ v)∧∀ i,i < (gm c a).n→at_ v i≤1500) ?_ ?_
   ·obtain ⟨z,hz,hq,_⟩:=hQ0
    have EO:K1=cst ([]++K2 (gm c a) (gm c a).n):=by rw [h3,uB];rfl
    rw [EO]
    refine ay.ax hz ?_
    refine ay.bind (P:=fun y:List Int=>y.length=(gm c a).n∧Xo (gm c a) (at_ y)∧∀ i,i < (gm c a).n→at_ y i≤1500) (ay.iter (QI (gm c a) B) (fun s=>2*((gm c a).n+2 - s.2.2.2.2.2.toNat)+(bif s.2.1 then 1 else 0)) hq (fun s hs => ?_)) (fun y hy=>ay.some hy)
    obtain ⟨to,ok,R2,O2,K3,nx⟩:=s
    obtain ⟨g1,g2,P,Q,g3,g4,g5,g6⟩:=hs
    simp only at g1 g2 g3 g4 g5 g6 ⊢
    have hKn:(P++Q).length≤(gm c a).n:=by
     have:=ZK (L2:=ur (gm c a).n) g3.core.nd (fun y hy=>ui.2 (g3.core.lt y hy))
     rwa [uH] at this
    rcases g6 with ⟨rfl,rfl,g7⟩ | ⟨rfl,u,Q',rfl,rfl,rfl⟩
    ·refine ay.ite (fun h=>by cases h) (fun _ => ?_)
     exact ay.some ⟨g1,(g3.done A.closed).ok A.closed,fun i hi=>by have:=g4 i hi;omega⟩
    ·refine ay.ite (fun _ => ?_) (fun h=>by cases h)
     have E:=g3.enter
     obtain ⟨_,hun,_⟩:=E.core.split
     obtain ⟨l,l1,l2,l3⟩:=oG.row u hun
     have iX:∀ x,x < (gm c a).n→l.count x=((gm c a).succ x).count u:=fun x hx=>by rw [l3 x,if_pos (by rw [←tB];exact hx)]
     have BA:∀ x∈l,x < (gm c a).n:=fun x hx=>by
      have h5:0 < l.count x:=List.count_pos_iff.2 hx
      rw [l3 x] at h5
      split at h5
      ·rename_i h6;exact h6
      ·split at h5
       ·simp at h5
       ·omega
     refine ay.ax (zM hun) ?_
     refine ay.ax l1 ?_
     refine ay.bind (P:=fun o:(List Int×List Int×List Int) ⊕ Unit=>∃ s5,o=.inl s5∧s5.1.length=(gm c a).n∧s5.2.1.length=(gm c a).n∧∃ Q2,s5.2.2=cst (P++u::Q2)∧fH (gm c a) (at_ s5.1) (at_ s5.2.1) P u Q2 (fun y=>l.count y)∧tA (gm c a) (at_ s5.1) (P++u::Q2).length) ?_ ?_
     ·rw [Zn]
      refine ay.eE (fun k s5=>s5.1.length=(gm c a).n∧s5.2.1.length=(gm c a).n∧∃ Q2,s5.2.2=cst (P++u::Q2)∧fH (gm c a) (at_ s5.1) (at_ s5.2.1) P u Q2 (fun y=>(l.take k).count y)∧tA (gm c a) (at_ s5.1) (P++u::Q2).length) (by omega) ⟨g1,g2,Q',g5,by simpa using E,g4⟩ (fun k s5 hk hs5 => ?_) (fun s5 h=>⟨s5,rfl,by rw [Uc] at h;exact h⟩)
      obtain ⟨R4,O4,K4⟩:=s5
      obtain ⟨i1,i2,Q2,i3,i4,i5⟩:=hs5
      simp only at i1 i2 i3 i4 i5 ⊢
      have hx:=BA _ (uk hk)
      refine ay.ax (zB (e:=(l[k]:Int)) (by unfold cst;rw [ue,ua hk];rfl)) ?_
      rw [i3]
      refine ay.bind (zi3 hc A _ i1 i2 i4 i5 hx ?_) (fun z hz => ?_)
      ·have h6:=YI hk l[k]
       unfold upd at h6
       rw [if_pos rfl] at h6
       have h7:(l.take (k+1)).count l[k]≤l.count l[k]:=(List.take_sublist _ _).count_le _
       rw [iX _ hx] at h7
       show (l.take k).count l[k] < _
       omega
      ·obtain ⟨j1,j2,Q3,j3,j4,j5⟩:=hz
       refine ay.some ⟨j2,j1,Q3,j3,?_,j5⟩
       simp only
       rw [zht hk];exact j4
     ·rintro _ ⟨⟨R4,O4,K4⟩,rfl,i1,i2,Q2,i3,i4,i5⟩
      simp only [uN] at i1 i2 i3 i4 i5 ⊢
      have hB2:=i4.leave iX
      have hPQ:P++[u]++Q2=P++u::Q2:=by simp
      obtain ⟨z2,iH,Av,EP,LL⟩:=LI (ed:=B) (P:=P++[u]) (Q:=Q2) hn i1 i2 hB2 (by rw [hPQ];exact i5)
      rw [hPQ] at iH Av
      rw [i3]
      have nT:((P++[u]).length:Int)=(P.length:Int)+1:=by simp
      rw [nT] at iH
      refine ay.ax iH ?_
      refine ay.some ⟨Av,?_⟩
      simp only [cond_true]
      rw [um] at EP LL
      simp only [uV,Uf] at EP LL
      rcases EP with ⟨e1,e2⟩ | ⟨e1,e2⟩
      ·rw [e1,e2,cy];omega
      ·rw [e1,e2,cond_true];omega
   ·intro v hv
    refine ay.ax (wp (tB.symm.trans hv.1.symm)) ?_
    exact ay.some hv
end
end
theorem cx.get {c:aq} {hs:List Int} {ms r:List ak} (h:cx c hs ms r) {i:Nat} {m:ak} (hi:i < c.zw.length) (hm:ms[i]?=some m) (h0:m.aR≠0):r[i]?=some m:=by
 have hl:i < r.length:=by rw [h.ok.1];exact hi
 rw [ua hl]
 rcases h.rel i m r[i] hm (ua hl) with e | ⟨e,_⟩
 ·rw [e]
 ·exact absurd e h0
theorem LM {c:aq} {s:aH} {aj:Int}:q5 c s aj=true↔∃ (i:Nat) (k:aK) (m:ak),c.zw[i]?=some k∧s.aO[i]?=some m∧k.final=true∧m.aR=4∧m.bC=aj:=by
 unfold q5
 rw [ug,Ua]
 constructor
 ·rintro ⟨i,hi,h⟩
  simp only [ug,Bool.not_eq_false,Kp] at h
  split at h
  ·rename_i k m hk hm
   simp only [uj,beq_iff_eq] at h
   exact ⟨i,k,m,hk,hm,h.1,h.2.1,h.2.2⟩
  ·cases h
 ·rintro ⟨i,k,m,hk,hm,h1,h2,h3⟩
  refine ⟨i,ui.2 (uc.1 hm).1,?_⟩
  simp [Kp,hk,hm,h1,h2,h3]
theorem zfk {c:aq} {aj:Int} {q:aG} {m:Int} (hm:m∈zq c aj q):(m = -2∧q.own=true)∨(-1≤m∧m < c.aC.length∧q.state.day < c.bh):=by
 rcases qh.1 hm with ⟨h1,h2⟩ | ⟨h1,_,h2⟩ | ⟨h1,i,h2,_,h3⟩
 ·exact .inl ⟨h2,h1⟩
 ·exact .inr ⟨by omega,by omega,h1⟩
 ·exact .inr ⟨by omega,by omega,h1⟩
theorem WW (c:aq) (q:aG):target c q (-2)={state:=q.state,own:=false}:=if_pos rfl
theorem WX (c:aq) (q:aG) {m:Int} (h : -1≤m):target c q m={state:=ql c q.state m,own:=true}:=if_neg (by omega)
section
section
variable {c:aq} {aj:Int} {p:aG} {a:b9}
theorem bY.lost (A:bY c aj p a) {i:Nat} (hi:i < a.aY.length):(gm c a).lost i=q5 c a.aY[i].state aj:=by
 show (match a.aY[i]? with | some q=>q5 c q.state a.aj | none=>false)=_
 rw [ua hi,A.pa]
theorem bY.own (A:bY c aj p a) {i:Nat} (hi:i < a.aY.length):(gm c a).own i=a.aY[i].own:=by
 show (match a.aY[i]? with | some q=>q.own | none=>false)=_
 rw [ua hi]
theorem bY.pos (A:bY c aj p a):0 < a.aY.length:=(uc.1 A.F.first).1
theorem bY.tgt (A:bY c aj p a) {i:Nat} (hi:i < a.aY.length) {T:List bk} (hT:a.bg[i]?=some T) {m:bk} (hm:m∈T) :
  m.step∈zq c aj a.aY[i]∧0≤m.to∧∃ h:m.to.toNat < a.aY.length,a.aY[m.to.toNat]=target c a.aY[i] m.step:=by
 obtain ⟨T',h1,h2,h3⟩:=A.mv hi
 rw [hT] at h1;cases h1
 obtain ⟨h4,h5⟩:=h3 m hm
 obtain ⟨h6,h7⟩:=uc.1 h5
 exact ⟨by rw [←h2];exact uh.2 ⟨m,hm,rfl⟩,h4,h6,h7⟩
theorem bY.ne (A:bY c aj p a) {i:Nat} (hi:i < a.aY.length) {T:List bk} (hT:a.bg[i]?=some T) (ho:a.aY[i].own=true):T≠[]:=by
 obtain ⟨T',h1,h2,_⟩:=A.mv hi
 rw [hT] at h1;cases h1
 intro e
 subst e
 have:(-2:Int)∈zq c aj a.aY[i]:=qh.2 (.inl ⟨ho,rfl⟩)
 rw [←h2] at this;cases this
end
end
section
def cj (c:aq) (aj:Int):Nat→aG→Prop
 | 0,q=>q5 c q.state aj=true
 | k+1,q=>q5 c q.state aj=true∨(q.own=true∧∀ m∈zq c aj q,cj c aj k (target c q m))∨(q.own=false∧∃ m∈zq c aj q,cj c aj k (target c q m))
def xf (c:aq) (aj:Int) (q:aG):Prop:=∀ k,¬ cj c aj k q
theorem cj.zero {c:aq} {aj:Int} {q:aG} (h:q5 c q.state aj=true):∀ k,cj c aj k q
 | 0=>h
 | k+1=>.inl h
theorem cj.gT {c:aq} {aj:Int}:∀ {k:Nat} {q:aG},cj c aj k q→cj c aj (k+1) q
 | 0,q,h=>.inl h
 | k+1,q,h=>by
  rcases h with h | ⟨h1,h2⟩ | ⟨h1,t,h2,h3⟩
  ·exact .inl h
  ·exact .inr (.inl ⟨h1,fun t ht=>(h2 t ht).gT⟩)
  ·exact .inr (.inr ⟨h1,t,h2,h3.gT⟩)
theorem cj.mono {c:aq} {aj:Int} {k k':Nat} {q:aG} (hk:k≤k') (h:cj c aj k q):cj c aj k' q:=by
 induction hk with
 | refl=>exact h
 | step _ ih=>exact ih.gT
section
variable {c:aq} {aj:Int} {p:aG} {a:b9}
theorem LN (A:bY c aj p a):∀ (k i:Nat) (hi:i < a.aY.length),Attr (gm c a) k i↔cj c aj k a.aY[i]
 | 0,i,hi=>by show (gm c a).lost i=true↔_;rw [A.lost hi];rfl
 | k+1,i,hi=>by
  obtain ⟨T,hT,hst,_⟩:=A.mv hi
  have hs:=A.succ hi hT
  have go:∀ m∈T,(Attr (gm c a) k m.to.toNat↔cj c aj k (target c a.aY[i] m.step)):=fun m hm=>by
   obtain ⟨_,_,t3,t4⟩:=A.tgt hi hT hm
   rw [LN A k _ t3,t4]
  have hall:(∀ t∈(gm c a).succ i,Attr (gm c a) k t)↔∀ m∈zq c aj a.aY[i],cj c aj k (target c a.aY[i] m):=by
   rw [hs,←hst]
   constructor
   ·intro h x hx
    obtain ⟨m,hm,rfl⟩:=uh.1 hx
    exact (go m hm).1 (h _ (uh.2 ⟨m,hm,rfl⟩))
   ·intro h x hx
    obtain ⟨m,hm,rfl⟩:=uh.1 hx
    exact (go m hm).2 (h _ (uh.2 ⟨m,hm,rfl⟩))
  have hex:(∃ t∈(gm c a).succ i,Attr (gm c a) k t)↔∃ m∈zq c aj a.aY[i],cj c aj k (target c a.aY[i] m):=by
   rw [hs,←hst]
   constructor
   ·rintro ⟨x,hx,h⟩
    obtain ⟨m,hm,rfl⟩:=uh.1 hx
    exact ⟨_,uh.2 ⟨m,hm,rfl⟩,(go m hm).1 h⟩
   ·rintro ⟨x,hx,h⟩
    obtain ⟨m,hm,rfl⟩:=uh.1 hx
    exact ⟨_,uh.2 ⟨m,hm,rfl⟩,(go m hm).2 h⟩
  show ((gm c a).lost i=true∨((gm c a).own i=true∧∀ t∈(gm c a).succ i,Attr (gm c a) k t)∨((gm c a).own i=false∧∃ t∈(gm c a).succ i,Attr (gm c a) k t))↔_
  rw [A.lost hi,A.own hi,hall,hex]
  rfl
def oJ (c:aq) (aj:Int) (q:aG) (x:Int):Prop := -1≤x∧∀ k:Nat,(x ≠ -1∧x≤k)↔cj c aj k q
theorem zmU (A:bY c aj p a) {r:Nat→Int} (hr:Xo (gm c a) r) {i:Nat} (hi:i < a.aY.length):oJ c aj a.aY[i] (r i):=
 ⟨(hr i hi).1,fun k=>((hr i hi).2 k).trans (LN A k i hi)⟩
theorem oJ.safe {q:aG} {x:Int} (h:oJ c aj q x):x = -1↔xf c aj q:=by
 constructor
 ·intro e k hk
  exact ((h.2 k).2 hk).1 e
 ·intro hs
  have:=h.1
  by_cases e:x = -1
  ·exact e
  ·exact absurd ((h.2 x.toNat).1 ⟨e,by omega⟩) (hs _)
end
theorem Vq {c:aq} {aj:Int} {p:aG} {L:List aG} (hl:L.length≤1500) (h:∀ x,lz c aj p x→x∈L):¬ Vo c aj p:=by
 rintro ⟨L1,h1,h2,q,h3,h4⟩
 have h5:(q::L1).Nodup:=List.nodup_cons.2 ⟨h4,h1.nd⟩
 have:=ZK (L2:=L) h5 (fun x hx=>by
  rcases uU.1 hx with e | hx
  ·rw [e];exact h q h3
  ·exact h x (h1.pU x hx))
 rw [uV] at this
 omega
end
section
open Classical in
noncomputable def bn (c:aq) (aj:Int) (q:aG):Bool:=decide (xf c aj q)
theorem q8 {c:aq} {aj:Int} {q:aG}:bn c aj q=true↔xf c aj q:=by unfold bn;simp
theorem zhx {c:aq} {aj:Int} {q:aG} (h:xf c aj q):q5 c q.state aj=false:=by
 cases e:q5 c q.state aj with
 | false=>rfl
 | true=>exact absurd e (h 0)
theorem zfl {c:aq} {aj:Int} (l:List Int) (f:Int→aG) (h:∀ m∈l,¬ xf c aj (f m)):∃ k,∀ m∈l,cj c aj k (f m):=by
 induction l with
 | nil=>exact ⟨0,fun m hm=>by cases hm⟩
 | cons x l ih=>
  obtain ⟨k,hk⟩:=ih fun m hm=>h m (List.mem_cons_of_mem _ hm)
  have hx:=h x List.mem_cons_self
  obtain ⟨k2,hk2⟩:∃ k,cj c aj k (f x):=Classical.not_forall_not.1 hx
  refine ⟨k+k2,fun m hm => ?_⟩
  rcases uU.1 hm with rfl | hm
  ·exact hk2.mono (by omega)
  ·exact (hk m hm).mono (by omega)
theorem zi4 {c:aq} {aj:Int} {q:aG} (ho:q.own=true):xf c aj q↔q5 c q.state aj=false∧∃ m∈zq c aj q,xf c aj (target c q m):=by
 constructor
 ·intro h
  refine ⟨zhx h,?_⟩
  apply Classical.byContradiction
  intro hn
  obtain ⟨k,hk⟩:=zfl (zq c aj q) (target c q) (fun m hm hs=>hn ⟨m,hm,hs⟩)
  exact h (k+1) (.inr (.inl ⟨ho,hk⟩))
 ·rintro ⟨h1,m,hm,h2⟩ k hk
  cases k with
  | zero=>
   have hk:q5 c q.state aj=true:=hk
   rw [h1] at hk;cases hk
  | succ k=>
   rcases hk with hk | ⟨_,hk⟩ | ⟨hk,_⟩
   ·rw [h1] at hk;cases hk
   ·exact h2 k (hk m hm)
   ·rw [ho] at hk;cases hk
section
variable {c:aq} {aj:Int} {p:aG} {a:b9}
theorem LO (hc:c.Ok) (A:bY c aj p a):ky c a=some (a.aY.map (bn c aj)):=by
 refine ay.eq ?_
 have hn:a.aY.length≤1500:=A.F.inv.len
 unfold ky
 refine ay.bind (zhv hc A) ?_
 rintro r ⟨hl,hr,_⟩
 have hmk:ef 1 (r.length:Int)=some a.aY.length:=by rw [hl];exact QT hn (by omega)
 refine ay.ax hmk ?_
 refine ay.bind (P:=fun o:List Bool ⊕ Unit=>o=.inl (a.aY.map (bn c aj))) (ay.eE (fun i s=>s.length=a.aY.length∧∀ j,j < i→s[j]?=(a.aY.map (bn c aj))[j]?) (by omega) ⟨by simp,fun j hj=>by omega⟩ (fun i s hi hs => ?_) (fun s hs => ?_)) ?_
 ·have hi':i < a.aY.length:=by omega
  refine ay.ax (zB (yb hi)) ?_
  refine ay.ax (zM hi') ?_
  refine ay.ax (ua (show i < s.length by omega)) ?_
  refine ay.some ⟨by simp [hs.1],fun j hj => ?_⟩
  by_cases e:j=i
  ·subst e
   rw [ux (by omega),ue,ua hi']
   simp only [uC,Option.some.injEq]
   have h1:=(zmU A hr hi').safe
   cases h2:bn c aj a.aY[j] with
   | true=>rw [h1.2 (q8.1 h2)];rfl
   | false=>
    refine beq_eq_false_iff_ne.2 fun e => ?_
    rw [q8.2 (h1.1 e)] at h2;cases h2
  ·rw [u0 (Ne.symm e)];exact hs.2 j (by omega)
 ·have e:s=a.aY.map (bn c aj):=uu fun j=>by
   by_cases h:j < r.length
   ·exact hs.2 j h
   ·rw [ud (by omega),ud (by simp;omega)]
  rw [e]
 ·rintro _ rfl
  simp only [uN]
  refine ay.ax (wp (by simp)) ?_
  exact ay.some rfl
noncomputable def jH (c:aq) (aj:Int) (q:aG):Int:=
 bif q.own&&bn c aj q then ((zq c aj q).find? fun m=>bn c aj (target c q m)).getD (-2) else -2
theorem QU (A:bY c aj p a) {i:Nat} (hi:i < a.aY.length):ze (a.aY.map (bn c aj)) (i:Int)=some (bn c aj a.aY[i]):=zB (by rw [ue,ua hi];rfl)
theorem LP (A:bY c aj p a) {i:Nat} (hi:i < a.aY.length) {T:List bk} (hT:a.bg[i]?=some T) {m:bk} (hm:m∈T):ze (a.aY.map (bn c aj)) m.to=some (bn c aj (target c a.aY[i] m.step)):=by
 obtain ⟨_,t2,t3,t4⟩:=A.tgt hi hT hm
 have:=QU A t3
 rw [uT t2,t4] at this
 exact this
theorem zdo (hc:c.Ok) (A:bY c aj p a):Z9 a (a.aY.map (bn c aj))=some (a.aY.map (jH c aj)):=by
 refine ay.eq ?_
 have hn:a.aY.length≤1500:=A.F.inv.len
 unfold Z9
 refine ay.ax (QT hn (by omega)) ?_
 refine ay.bind (P:=fun o:List Int ⊕ Unit=>o=.inl (a.aY.map (jH c aj))) (ay.eE (fun i s=>s.length=a.aY.length∧∀ j,j < i→s[j]?=(a.aY.map (jH c aj))[j]?) (by omega) ⟨by simp,fun j hj=>by omega⟩ (fun i s hi hs => ?_) (fun s hs => ?_)) ?_
 ·obtain ⟨T,hT,hst,_⟩:=A.mv hi
  have Bz:=A.len hc hi hT
  have EQ:∀ x:Int,x=jH c aj a.aY[i]→(s.set i x).length=a.aY.length∧∀ j,j < i+1→(s.set i x)[j]?=(a.aY.map (jH c aj))[j]?:=fun x hx=>by
   refine ⟨by simp [hs.1],fun j hj => ?_⟩
   by_cases e:j=i
   ·subst e
    rw [ux (by omega),ue,ua hi,hx];rfl
   ·rw [u0 (Ne.symm e)];exact hs.2 j (by omega)
  refine ay.bind (P:=fun s2:List Int=>∃ x,x=jH c aj a.aY[i]∧s2=s.set i x) ?_ (fun s2 h=>by obtain ⟨x,h1,rfl⟩:=h;exact ay.some (EQ x h1))
  refine ay.ax (zB (ua hi)) ?_
  refine ay.ax (zM hi) ?_
  refine ay.ax (ua (show i < s.length by omega)) ?_
  refine ay.ax (v := !(a.aY[i].own&&bn c aj a.aY[i])) ?_ ?_
  ·rw [QU A hi]
   cases a.aY[i].own<;>cases bn c aj a.aY[i]<;>rfl
  refine ay.ite (fun h=>ay.some ⟨-2,?_,rfl⟩) (fun h => ?_)
  ·unfold jH
   have:(a.aY[i].own&&bn c aj a.aY[i])=false:=by
    cases hx:(a.aY[i].own&&bn c aj a.aY[i]) with
    | false=>rfl
    | true=>rw [hx] at h;cases h
   rw [this];rfl
  ·have hos:(a.aY[i].own&&bn c aj a.aY[i])=true:=by
    cases hx:(a.aY[i].own&&bn c aj a.aY[i]) with
    | true=>rfl
    | false=>rw [hx] at h;cases h
   have lA:jH c aj a.aY[i]=((T.map (·.step)).find? fun m=>bn c aj (target c a.aY[i] m)).getD (-2):=by
    unfold jH;rw [hos,hst];rfl
   refine ay.ax (zB hT) ?_
   refine ay.bind (P:=fun o:Unit ⊕ List Int=>(o=.inl ()∧∀ m∈T,bn c aj (target c a.aY[i] m.step)=false)∨∃ x,x=jH c aj a.aY[i]∧o=.inr (s.set i x))
    (ay.eE (fun k _=>∀ (j:Nat) (hj:j < T.length),j < k→bn c aj (target c a.aY[i] T[j].step)=false) (by omega) (fun j _ hj=>by omega) (fun k _ hk hk2 => ?_) (fun _ h=>.inl ⟨rfl,fun m hm=>by obtain ⟨j,hj,rfl⟩:=uv hm;exact h j hj hj⟩)) ?_
   ·refine ay.ax (zB (ua hk)) ?_
    refine ay.ax (LP A hi hT (uk hk)) ?_
    refine ay.ite (fun ER => ?_) (fun ER=>ay.some fun j hj hjk => ?_)
    ·refine ay.ax (zM hi) ?_
     refine ay.ax (ux (show i < s.length by omega)) ?_
     refine ay.some (.inr ⟨T[k].step,?_,by rw [Uh]⟩)
     rw [lA]
     have hf:(T.map (·.step)).find? (fun m=>bn c aj (target c a.aY[i] m))=some T[k].step:=by
      have Dc:T.find? ((fun m=>bn c aj (target c a.aY[i] m))∘fun x=>x.step)=some T[k]:=by
       refine uP.2 ⟨ER,k,hk,rfl,fun j hj => ?_⟩
       have:=hk2 j (by omega) hj
       simp only [Function.comp_apply,this,Bool.not_false]
      rw [List.find?_map,Dc];rfl
     rw [hf];rfl
    ·by_cases e:j=k
     ·subst e;exact ER
     ·exact hk2 j hj (by omega)
   ·rintro _ (⟨rfl,h⟩ | ⟨x,h1,rfl⟩)
    ·refine ay.some ⟨-2,?_,rfl⟩
     rw [lA,u7.2 (fun m hm => ?_)]
     ·rfl
     ·obtain ⟨t,ht,rfl⟩:=uh.1 hm
      simp [h t ht]
    ·exact ay.some ⟨x,h1,rfl⟩
 ·have e:s=a.aY.map (jH c aj):=uu fun j=>by
   by_cases h:j < a.aY.length
   ·exact hs.2 j h
   ·rw [ud (by omega),ud (by simp;omega)]
  rw [e]
 ·rintro _ rfl
  simp only [uN]
  refine ay.ax (wp (by simp)) ?_
  exact ay.some rfl
end
end
section
def pp (P:List Int) (p:aG):aG:={state:=rs P p.state,own:=p.own}
section
variable {c:aq} {ρ:Nat→Nat}
abbrev rQ (c:aq) (ρ:Nat→Nat) (r:Nat):List Int:=jG ρ r c.zw.length
theorem zi5 (ρ:Nat→Nat) (r n:Nat):(jG ρ r n).Pairwise (· < ·):=by
 unfold jG
 rw [List.pairwise_map]
 exact (List.Pairwise.sublist uS List.pairwise_lt_range).imp fun h=>by omega
theorem ES (hc:c.Ok) (hv:(zF c).1=0) (R:cq c ρ) (r:Nat):∃ ks,bE c (rQ c ρ r) ks:=by
 have ho:=hc.off.lt (by omega:0 < 8)
 have sm:=qy ho hv
 obtain ⟨ks,hks⟩:=Z3 (g:=kI c (rQ c ρ r)) (l:=rQ c ρ r) (fun x hx=>by
  obtain ⟨x0,x1,x2⟩:=ZJ.1 hx
  have hk:=ua (show x.toNat < c.zw.length by omega)
  obtain ⟨st,hst⟩:=Z3 (g:=xH (rQ c ρ r)) (l:=c.zw[x.toNat].start) (fun y hy=>by
   have hcd:=sm.cond _ _ hk y hy
   have hm:y.clause∈rQ c ρ r:=ZJ.2 ⟨by omega,by omega,by rw [←x2];exact (R.start _ _ hk y hy).symm⟩
   unfold xH qW
   rw [if_pos hm]
   exact ⟨_,rfl⟩)
  refine ⟨({c.zw[x.toNat] with start:=st}:aK),?_⟩
  unfold kI
  have e:ze c.zw x=some c.zw[x.toNat]:=(q6 x0 (by omega)).2
  rw [e]
  simp only [bf,hst,uC])
 exact ⟨ks,hv,Wf (fun x hx=>by obtain ⟨x0,x1,_⟩:=ZJ.1 hx;omega) (zi5 ρ r _),hks⟩
theorem LQ {a b:aH}:wZ a b=false↔a≠b:=by
 rw [←Bool.not_eq_true,vC]
theorem zkJ (hc:c.Ok) {P:List Int} {ks:List aK} (h:bE c P ks) {aj:Int} {p:aG} (hv:VS c p.state) {m:Int} (hm:m∈zq (cp c ks) aj (pp P p)):m∈zq c aj p∧target (cp c ks) (pp P p) m=pp P (target c p m):=by
 rcases qh.1 hm with ⟨h1,rfl⟩ | ⟨h1,h2,rfl⟩ | ⟨h1,i,h2,h3,rfl⟩
 ·exact ⟨qh.2 (.inl ⟨h1,rfl⟩),by simp [target,pp]⟩
 ·refine ⟨qh.2 (.inr (.inl ⟨h1,h2,rfl⟩)),?_⟩
  have h2':(0:Int) < c.aC.length∨True:=.inr trivial
  have e:=Lf hc h hv (a := -1) (by omega) (by omega) h1
  simp only [target,pp]
  rw [if_neg (by omega),if_neg (by omega),e]
 ·have h2:i < c.aC.length:=h2
  have e:=Lf hc h hv (a:=(i:Int)) (by omega) (by omega) h1
  refine ⟨qh.2 (.inr (.inr ⟨h1,i,h2,?_,rfl⟩)),?_⟩
  ·have ha:=ua h2
   have ha':(cp c ks).aC[i]?=some c.aC[i]:=ha
   simp only [mY,ha',uj,ug,LQ] at h3
   simp only [mY,ha,uj,ug,LQ]
   refine ⟨h3.1,fun e2=>h3.2 ?_⟩
   show ql (cp c ks) (rs P p.state) i=rs P p.state
   rw [e,e2]
  ·simp only [target,pp]
   rw [if_neg (by omega),if_neg (by omega),e]
theorem zhy (hc:c.Ok) {aj:Int} {p:aG} (hv:VS c p.state) {m:Int} (hm:m∈zq c aj p):VS c (target c p m).state:=by
 rcases zfk hm with ⟨rfl,_⟩ | ⟨h1,h2,h3⟩
 ·rw [WW];exact hv
 ·rw [WX c p h1];exact (jg hc hv h1 h2 h3).2.1
end
end
section
def dV (off:Nat) (x:Int):Int:=if x < 0 then x else x+off
def iN (off:Nat) (k:aK):aK:={k with act:=k.act+off,aL:=dV off k.aL,cX:=dV off k.cX}
structure cY (e U:aq) (off:Nat):Prop where
 oK:e.Ok
 Ae:U.Ok
 ve:(zF e).1=0
 vU:(zF U).1=0
 o8:U.aT=e.aT
 iT:U.aF=e.aF
 day:U.bh=e.bh
 oL:U.off=e.off
 kU:∀ a∈U.aC,a.kind=1
 kE:∀ a∈e.aC,a.kind=1
 aC:∀ (i:Nat) (a:aV),e.aC[i]?=some a→U.aC[i+off]?=some a
 cl:U.zw=e.zw.map (iN off)
def dO (U:aq) (s:aH):aH:={s with used:=uO U.aC.length false}
theorem zi6 (off:Nat) (x:Int):(dV off x == -1)=(x == -1):=by
 unfold dV
 split
 ·rfl
 ·rw [beq_eq_false_iff_ne.2 (by omega),beq_eq_false_iff_ne.2 (by omega)]
theorem zmV (off i:Nat) (x:Int):(((i+off:Nat):Int) == dV off x)=((i:Int) == x):=by
 unfold dV
 split
 ·rw [beq_eq_false_iff_ne.2 (by omega),beq_eq_false_iff_ne.2 (by omega)]
 ·by_cases e:(i:Int)=x
  ·rw [beq_iff_eq.2 e,beq_iff_eq.2 (by omega)]
  ·rw [beq_eq_false_iff_ne.2 e,beq_eq_false_iff_ne.2 (by omega)]
theorem zmW (p:Int) (off:Nat) (k:aK) (m:ak):q9 p (iN off k) m=q9 p k m:=by
 unfold q9 kH
 simp only [iN,zi6]
 rfl
section
variable {e U:aq} {off:Nat} {s:aH}
theorem cY.get (E:cY e U off) {i:Nat} {k:aK} (hk:e.zw[i]?=some k):U.zw[i]?=some (iN off k):=by rw [E.cl,ue,hk];rfl
theorem cY.inv (E:cY e U off) {i:Nat} {k':aK} (hk:U.zw[i]?=some k'):∃ k,e.zw[i]?=some k∧k'=iN off k:=by
 rw [E.cl,ue] at hk
 obtain ⟨k,h1,h2⟩:=uW.1 hk
 exact ⟨k,h1,h2.symm⟩
theorem cY.len (E:cY e U off):U.zw.length=e.zw.length:=by rw [E.cl,ul]
theorem cY.ready (E:cY e U off) (ms:List ak) (i:Nat):qK U.zw ms i=qK e.zw ms i:=by
 unfold qK
 rw [E.cl,ue]
 cases e.zw[i]?<;>cases ms[i]?<;>rfl
theorem cY.vs (E:cY e U off) (hv:VS e s):VS U (dO U s) where
 cv:=E.vU
 day:=by rw [E.day];exact hv.day
 lh:=by rw [E.iT];exact hv.lh
 lu:=by simp [dO]
 lm:=by rw [E.len];exact hv.lm
 hold:=by rw [E.o8];exact hv.hold
 used:=fun i a _ h=>by
  simp only [dO,uF] at h
  split at h<;>cases h
 tY:=fun i k m hk hm=>by
  obtain ⟨k0,h1,rfl⟩:=E.inv hk
  rw [E.o8,zmW]
  exact hv.tY i k0 m h1 hm
 Bn:=fun i hi=>by
  show qK U.zw s.aO i=false
  rw [E.ready]
  exact hv.Bn i (by rw [←E.len];exact hi)
theorem cY.eK (E:cY e U off) (ms:List ak):∀ n i,eK U.zw ms n i↔eK e.zw ms n i
 | 0,i=>Iff.rfl
 | n+1,i=>by
  simp only [Go.Proofs.YtlpmnmbebkdocaaGreatDoor.eK]
  constructor
  ·rintro ⟨k',m,e1,e2,e3,e4,e5⟩
   obtain ⟨k,h1,rfl⟩:=E.inv e1
   refine ⟨k,m,h1,e2,e3,e4,fun x hx => ?_⟩
   rcases e5 x hx with g | ⟨g,g'⟩
   ·exact .inl g
   ·exact .inr ⟨g,(E.eK ms n _).1 g'⟩
  ·rintro ⟨k,m,e1,e2,e3,e4,e5⟩
   refine ⟨_,m,E.get e1,e2,e3,e4,fun x hx => ?_⟩
   rcases e5 x hx with g | ⟨g,g'⟩
   ·exact .inl g
   ·exact .inr ⟨g,(E.eK ms n _).2 g'⟩
theorem cY.Aa (E:cY e U off) (ms:List ak) (i:Nat):nV U.zw ms i↔nV e.zw ms i:=
 ⟨fun ⟨n,hn⟩=>⟨n,(E.eK ms n i).1 hn⟩,fun ⟨n,hn⟩=>⟨n,(E.eK ms n i).2 hn⟩⟩
theorem cY.start (E:cY e U off) {hs:List Int} {ms r r':List ak} (hl:ms.length=e.zw.length) (S:cx e hs ms r) (S':cx U hs ms r'):r'=r:=by
 have h1:=S.ok.1
 have h2:r'.length=e.zw.length:=by rw [←E.len];exact S'.ok.1
 refine uu fun i => ?_
 by_cases hi:i < e.zw.length
 ·have hk:=ua hi
  have hm:=ua (show i < ms.length by omega)
  have hs1:=S.Aa i _ _ hk hm
  have hs2:=S'.Aa i _ _ (E.get hk) hm
  have e0:=E.Aa ms i
  rcases hs1 with ⟨a1,a2⟩ | ⟨a1,a2⟩
  ·rcases hs2 with ⟨b1,b2⟩ | ⟨b1,b2⟩
   ·rw [a2,b2]
   ·exact absurd (e0.1 b1) a1
  ·rcases hs2 with ⟨b1,b2⟩ | ⟨b1,b2⟩
   ·exact absurd (e0.2 a1) b1
   ·rw [a2,b2];rfl
 ·rw [ud (by omega),ud (by omega)]
theorem cY.mapIdx (E:cY e U off) (F G:aK→ak→ak) (hF:∀ k m,F (iN off k) m=G k m) (ms:List ak):ms.mapIdx (eW U F)=ms.mapIdx (eW e G):=by
 refine uu fun i => ?_
 rw [uI,uI]
 cases ms[i]? with
 | none=>rfl
 | some m=>
  simp only [uC,eW]
  rw [E.cl,ue]
  cases e.zw[i]? with
  | none=>rfl
  | some k=>simp only [uC,hF]
theorem cY.tick (E:cY e U off) (hv:VS e s) (hd:s.day < e.bh):ql U (dO U s) (-1)=dO U (ql e s (-1)):=by
 obtain ⟨_,_,t1,_⟩:=jg E.oK hv (a := -1) (by omega) (by omega) hd
 obtain ⟨_,_,t2,_⟩:=jg E.Ae (E.vs hv) (a := -1) (by omega) (by omega) (by rw [E.day];exact hd)
 obtain ⟨x1,x2,x3,x4⟩:=t1 rfl
 obtain ⟨y1,y2,y3,y4⟩:=t2 rfl
 refine ZI (y1.trans (by show _=(ql e s (-1)).day;rw [x1];rfl)) (y2.trans (by show _=(ql e s (-1)).aF;rw [x2];rfl)) y3 ?_
 refine E.start (by rw [List.length_mapIdx];exact hv.lm) x4 ?_
 have e1:=E.mapIdx (wY (qW e.off s.day).isSome) (wY (qW e.off s.day).isSome) (fun k m=>rfl) s.aO
 rw [←e1]
 rw [E.oL] at y4
 exact y4
theorem cY.act (E:cY e U off) (hv:VS e s) (hd:s.day < e.bh) {i:Nat} (hi:i < e.aC.length):ql U (dO U s) ((i+off:Nat):Int)=dO U (ql e s (i:Int)):=by
 have ha:=ua hi
 have hU:=E.aC i _ ha
 have hUl:=(uc.1 hU).1
 have hk:=E.kE _ (uk hi)
 obtain ⟨_,_,_,a1⟩:=jg E.oK hv (a:=(i:Int)) (by omega) (by omega) hd
 obtain ⟨_,_,_,a2⟩:=jg E.Ae (E.vs hv) (a:=((i+off:Nat):Int)) (by omega) (by omega) (by rw [E.day];exact hd)
 have gU:(e.aC[i].kind == 3)=false:=by rw [hk];rfl
 have hk1:(e.aC[i].kind == 1)=true:=by rw [hk];rfl
 rcases a1 i _ rfl ha with ⟨x1,_⟩ | ⟨_,x2,x3,x4,x5⟩
 ·exact absurd hk x1
 rcases a2 (i+off) _ rfl hU with ⟨y1,_⟩ | ⟨_,y2,y3,y4,y5⟩
 ·exact absurd hk y1
 have hh:∀ l,hs3 e.aC[i] l=l:=fun l=>by unfold hs3;rw [hk1];rfl
 have hu:∀ j l,l8 j e.aC[i] l=l:=fun j l=>by unfold l8;rw [hk1];rfl
 rw [hh] at x3 x5 y3 y5
 rw [hu] at x4 y4
 refine ZI (y2.trans (by show _=(ql e s (i:Int)).day;rw [x2];rfl)) (y3.trans (by show _=(ql e s (i:Int)).aF;rw [x3];rfl)) y4 ?_
 refine E.start (by rw [Lb];exact hv.lm) x5 ?_
 have e1:lH U ((i+off:Nat):Int) e.aC[i] (dO U s).aF (dO U s).aO=lH e i e.aC[i] s.aF s.aO:=by
  unfold lH
  rw [gU]
  show eV U ((i+off:Nat):Int) e.aC[i] s.aF s.aO=eV e i e.aC[i] s.aF s.aO
  unfold eV fq
  rw [E.mapIdx (wt ((i+off:Nat):Int)) (wt (i:Int)) (fun k m=>by
   unfold wt
   simp only [iN,zmV]),E.mapIdx (ZH ((i+off:Nat):Int) (xF s.aF e.aC[i])) (ZH (i:Int) (xF s.aF e.aC[i])) (fun k m=>by
   have:(k.act+(off:Int) == ((i+off:Nat):Int))=(k.act == (i:Int)):=by
    by_cases q:k.act=(i:Int)
    ·rw [beq_iff_eq.2 q,beq_iff_eq.2 (by omega)]
    ·rw [beq_eq_false_iff_ne.2 q,beq_eq_false_iff_ne.2 (by omega)]
   unfold ZH
   simp only [iN,this]
   rfl)]
 rw [←e1]
 exact y5
end
end
section
section
variable {e U:aq} {off:Nat} {s:aH} {aj:Int}
theorem jB {aC:List aV} {a:Int} (h:xV aC a=true):0≤a∧a < (aC.length:Int):=by
 by_cases hr:0≤a∧a < (aC.length:Int)
 ·exact hr
 ·unfold xV at h
  rw [ZC hr] at h
  cases h
theorem cY.idle (E:cY e U off) (hv:VS e s) (hd:s.day < e.bh) {j:Nat} (hj:j < U.aC.length) (ho:j < off∨off+e.aC.length≤j):ql U (dO U s) (j:Int)=dO U s:=by
 have hU:=ua hj
 have hk:=E.kU _ (uk hj)
 have LR:=E.vs hv
 obtain ⟨_,_,_,a2⟩:=jg E.Ae LR (a:=(j:Int)) (by omega) (by omega) (by rw [E.day];exact hd)
 have gU:(U.aC[j].kind == 3)=false:=by rw [hk];rfl
 have hk1:(U.aC[j].kind == 1)=true:=by rw [hk];rfl
 rcases a2 j _ rfl hU with ⟨y1,_⟩ | ⟨_,y2,y3,y4,y5⟩
 ·exact absurd hk y1
 have hh:∀ l,hs3 U.aC[j] l=l:=fun l=>by unfold hs3;rw [hk1];rfl
 have hu:∀ j' l,l8 j' U.aC[j] l=l:=fun j' l=>by unfold l8;rw [hk1];rfl
 rw [hh] at y3 y5
 rw [hu] at y4
 have hsame:∀ F:aK→ak→ak,(∀ k m,k∈e.zw→F (iN off k) m=m)→(dO U s).aO.mapIdx (eW U F)=(dO U s).aO:=fun F hF=>by
  refine uu fun i => ?_
  rw [uI]
  cases (dO U s).aO[i]? with
  | none=>rfl
  | some m=>
   simp only [uC,eW]
   rw [E.cl,ue]
   cases hk:e.zw[i]? with
   | none=>rfl
   | some k=>simp only [uC,hF k m (uJ hk)]
 have hof:=E.oK.off.lt (by omega:0 < 8)
 have BB:∀ k∈e.zw,((k.act+(off:Int)) == (j:Int))=false∧((j:Int) == dV off k.aL)=false∧((j:Int) == dV off k.cX)=false:=fun k hk=>by
  obtain ⟨i,hi,rfl⟩:=uv hk
  have kv:=xe hof E.ve (ua hi)
  have h1:=kv.act
  refine ⟨beq_eq_false_iff_ne.2 (by omega),?_⟩
  unfold dV
  rcases kv.aL with ⟨p1,p2⟩ | ⟨p1,p2⟩
  ·rw [p1,p2,if_pos (by omega)]
   exact ⟨beq_eq_false_iff_ne.2 (by omega),beq_eq_false_iff_ne.2 (by omega)⟩
  ·have q1:=jB p1
   have q2:=jB p2
   rw [if_neg (by omega),if_neg (by omega)]
   exact ⟨beq_eq_false_iff_ne.2 (by omega),beq_eq_false_iff_ne.2 (by omega)⟩
 have e1:lH U (j:Int) U.aC[j] (dO U s).aF (dO U s).aO=(dO U s).aO:=by
  unfold lH
  rw [gU]
  show eV U (j:Int) U.aC[j] (dO U s).aF (dO U s).aO=_
  unfold eV fq
  rw [hsame (wt (j:Int)) (fun k m hk=>by
   obtain ⟨_,h2,h3⟩:=BB k hk
   unfold wt
   simp only [iN,h2,h3]
   cases jV m<;>rfl),hsame (ZH (j:Int) (xF (dO U s).aF U.aC[j])) (fun k m hk=>by
   obtain ⟨h1,_,_⟩:=BB k hk
   unfold ZH
   simp only [iN,h1,Bool.false_and,cy]
   cases jV m<;>rfl)]
 rw [e1] at y5
 exact ZI y2 y3 y4 (y5.same fun i hi=>LR.Bn i hi)
def fD (U:aq) (p:aG):aG:={state:=dO U p.state,own:=p.own}
theorem cY.lost (E:cY e U off):q5 U (dO U s) aj=q5 e s aj:=by
 rw [uR,LM,LM]
 constructor
 ·rintro ⟨i,k,m,h1,h2,h3⟩
  obtain ⟨k0,g1,rfl⟩:=E.inv h1
  exact ⟨i,k0,m,g1,h2,h3⟩
 ·rintro ⟨i,k,m,h1,h2,h3⟩
  exact ⟨i,_,m,E.get h1,h2,h3⟩
theorem cY.used (E:cY e U off) (hv:VS e s):s.used=uO e.aC.length false:=by
 refine uu fun i => ?_
 rw [uF]
 by_cases hi:i < e.aC.length
 ·have nW:i < s.used.length:=by rw [hv.lu];exact hi
  rw [if_pos hi,ua nW]
  cases hb:s.used[i] with
  | false=>rfl
  | true=>exact absurd (E.kE _ (uk hi)) (hv.used i _ (ua hi) (by rw [ua nW,hb]))
 ·rw [if_neg hi,ud (by rw [hv.lu];omega)]
theorem cY.inj (E:cY e U off) {t:aH} (hv:VS e s) (ht:VS e t) (h:dO U s=dO U t):s=t:=by
 refine ZI (show (dO U s).day=(dO U t).day by rw [h]) (show (dO U s).aF=(dO U t).aF by rw [h]) ?_ (show (dO U s).aO=(dO U t).aO by rw [h])
 rw [E.used hv,E.used ht]
theorem cY.bg (E:cY e U off) {p:aG} (hv:VS e p.state) {x:Int}:x∈zq U aj (fD U p)↔∃ y∈zq e aj p,x=dV off y:=by
 have hfit:∀ i a,e.aC[i]?=some a→i+off < U.aC.length:=fun i a h=>(uc.1 (E.aC i a h)).1
 have Ad:∀ i,p.state.day < e.bh→i < e.aC.length→mY U aj (fD U p) (i+off)=mY e aj p i:=fun i hd hi=>by
  have ha:=ua hi
  unfold mY
  rw [ha,E.aC i _ ha]
  simp only
  have hs:=E.act hv hd hi
  obtain ⟨_,sq,_⟩:=jg E.oK hv (a:=(i:Int)) (by omega) (by omega) hd
  have:wZ (ql U (fD U p).state ((i+off:Nat):Int)) (fD U p).state=wZ (ql e p.state (i:Int)) p.state:=by
   rw [uR,vC,vC]
   show ql U (dO U p.state) _=dO U p.state↔_
   rw [hs]
   exact ⟨fun h=>E.inj sq hv h,fun h=>by rw [h]⟩
  rw [this]
  rfl
 rw [qh]
 constructor
 ·rintro (⟨h1,rfl⟩ | ⟨h1,h2,rfl⟩ | ⟨h1,j,hj,hm,rfl⟩)
  ·exact ⟨-2,qh.2 (.inl ⟨h1,rfl⟩),rfl⟩
  ·exact ⟨-1,qh.2 (.inr (.inl ⟨by rw [←E.day];exact h1,h2,rfl⟩)),rfl⟩
  ·have hd:p.state.day < e.bh:=by rw [←E.day];exact h1
   by_cases ho:j < off∨off+e.aC.length≤j
   ·have hs:=E.idle hv hd hj ho
    unfold mY at hm
    rw [ua hj] at hm
    simp only [uj,ug] at hm
    have h2:=hm.2
    rw [show ql U (fD U p).state (j:Int)=(fD U p).state from hs,vC.2 rfl] at h2
    cases h2
   ·obtain ⟨i,rfl⟩:∃ i,j=i+off:=⟨j - off,by omega⟩
    have hi:i < e.aC.length:=by omega
    refine ⟨(i:Int),qh.2 (.inr (.inr ⟨hd,i,hi,by rw [←Ad i hd hi];exact hm,rfl⟩)),?_⟩
    unfold dV;rw [if_neg (by omega)];omega
 ·rintro ⟨y,hy,rfl⟩
  rcases qh.1 hy with ⟨h1,rfl⟩ | ⟨h1,h2,rfl⟩ | ⟨h1,i,hi,hm,rfl⟩
  ·exact .inl ⟨h1,rfl⟩
  ·exact .inr (.inl ⟨by rw [E.day];exact h1,h2,rfl⟩)
  ·refine .inr (.inr ⟨by rw [E.day];exact h1,i+off,hfit i _ (ua hi),by rw [Ad i h1 hi];exact hm,?_⟩)
   unfold dV;rw [if_neg (by omega)];omega
theorem cY.target (E:cY e U off) {p:aG} (hv:VS e p.state) {y:Int} (hy:y∈zq e aj p):Go.Proofs.YtlpmnmbebkdocaaGreatDoor.target U (fD U p) (dV off y)=fD U (Go.Proofs.YtlpmnmbebkdocaaGreatDoor.target e p y):=by
 rcases qh.1 hy with ⟨h1,rfl⟩ | ⟨h1,h2,rfl⟩ | ⟨h1,i,hi,hm,rfl⟩
 ·rfl
 ·unfold Go.Proofs.YtlpmnmbebkdocaaGreatDoor.target
  rw [if_neg (by unfold dV;omega),if_neg (by omega)]
  show ({state:=ql U (dO U p.state) (-1),own:=true}:aG)=_
  rw [E.tick hv h1];rfl
 ·have e1:dV off (i:Int)=((i+off:Nat):Int):=by unfold dV;rw [if_neg (by omega)];omega
  unfold Go.Proofs.YtlpmnmbebkdocaaGreatDoor.target
  rw [e1,if_neg (by omega),if_neg (by omega)]
  show ({state:=ql U (dO U p.state) ((i+off:Nat):Int),own:=true}:aG)=_
  rw [E.act hv h1 hi];rfl
theorem cY.attr (E:cY e U off):∀ (k:Nat) (p:aG),VS e p.state→(cj U aj k (fD U p)↔cj e aj k p)
 | 0,p,hv=>by show q5 U (dO U p.state) aj=true↔_;rw [E.lost];rfl
 | k+1,p,hv=>by
  have go:∀ y∈zq e aj p,(cj U aj k (Go.Proofs.YtlpmnmbebkdocaaGreatDoor.target U (fD U p) (dV off y))↔cj e aj k (Go.Proofs.YtlpmnmbebkdocaaGreatDoor.target e p y)):=fun y hy=>by
   rw [E.target hv hy]
   exact E.attr k _ (vD E.oK hv hy)
  show (q5 U (dO U p.state) aj=true∨(p.own=true∧∀ m∈zq U aj (fD U p),cj U aj k (Go.Proofs.YtlpmnmbebkdocaaGreatDoor.target U (fD U p) m))∨(p.own=false∧∃ m∈zq U aj (fD U p),cj U aj k (Go.Proofs.YtlpmnmbebkdocaaGreatDoor.target U (fD U p) m)))↔(q5 e p.state aj=true∨(p.own=true∧∀ m∈zq e aj p,cj e aj k (Go.Proofs.YtlpmnmbebkdocaaGreatDoor.target e p m))∨(p.own=false∧∃ m∈zq e aj p,cj e aj k (Go.Proofs.YtlpmnmbebkdocaaGreatDoor.target e p m)))
  rw [E.lost]
  have h1:(∀ m∈zq U aj (fD U p),cj U aj k (Go.Proofs.YtlpmnmbebkdocaaGreatDoor.target U (fD U p) m))↔∀ m∈zq e aj p,cj e aj k (Go.Proofs.YtlpmnmbebkdocaaGreatDoor.target e p m):=
   ⟨fun h y hy=>(go y hy).1 (h _ ((E.bg hv).2 ⟨y,hy,rfl⟩)),fun h x hx=>by
    obtain ⟨y,hy,rfl⟩:=(E.bg hv).1 hx
    exact (go y hy).2 (h y hy)⟩
  have h2:(∃ m∈zq U aj (fD U p),cj U aj k (Go.Proofs.YtlpmnmbebkdocaaGreatDoor.target U (fD U p) m))↔∃ m∈zq e aj p,cj e aj k (Go.Proofs.YtlpmnmbebkdocaaGreatDoor.target e p m):=
   ⟨fun ⟨x,hx,h⟩=>by
    obtain ⟨y,hy,rfl⟩:=(E.bg hv).1 hx
    exact ⟨y,hy,(go y hy).1 h⟩,fun ⟨y,hy,h⟩=>⟨_,(E.bg hv).2 ⟨y,hy,rfl⟩,(go y hy).2 h⟩⟩
  rw [h1,h2]
theorem cY.safe (E:cY e U off) {p:aG} (hv:VS e p.state):xf U aj (fD U p)↔xf e aj p:=
 ⟨fun h k hk=>h k ((E.attr k p hv).2 hk),fun h k hk=>h k ((E.attr k p hv).1 hk)⟩
end
end
section
section
variable {c:aq} {ρ:Nat→Nat} {aj:Int} {p:aG}
theorem zcI (hc:c.Ok) {s:aH} (hv:VS c s) {P:List Int} (hr:∀ x∈P,0≤x∧x < c.zw.length) (hl:P.length≤400):xm P s=some (rs P s):=by
 have hf:=hv.Bw hc
 have Ew:=hv.lm
 unfold xm
 rw [jv (by omega),jv (by omega)]
 simp only [bf]
 rw [Rm (st:=fun l=>l) P (fun i=>s.aO[i.toNat]?.getD default) (by omega) (fun i hi=>by
  obtain ⟨x0,x1⟩:=hr _ (uk hi)
  obtain ⟨h1,h2⟩:=q6 (l:=s.aO) (n:=P[i]) x0 (by omega)
  simp only [zH,ua hi,bf,h2]
  rw [yq (by simp;omega)]
  simp only [bf,ua h1,Option.getD_some]) rfl]
 rfl
theorem zi7 (hc:c.Ok) {P:List Int} {ks:List aK} (h:bE c P ks) (hv:VS c p.state) {q:aG} (hq:lz (cp c ks) aj (pp P p) q):∃ x,lz c aj p x∧VS c x.state∧pp P x=q:=by
 induction hq with
 | base=>exact ⟨p,.base,hv,rfl⟩
 | step _ hm ih=>
  obtain ⟨x,h1,h2,rfl⟩:=ih
  obtain ⟨g1,g2⟩:=zkJ hc h h2 hm
  exact ⟨_,.step h1 g1,zhy hc h2 g1,g2.symm⟩
theorem zhz (hc:c.Ok) {P:List Int} {ks:List aK} (h:bE c P ks) (hv:VS c p.state) {a:b9} (A:bY c aj p a):¬ Vo (cp c ks) aj (pp P p):=by
 refine Vq (L:=a.aY.map (pp P)) (by rw [ul];exact A.F.inv.len) fun q hq => ?_
 obtain ⟨x,h1,_,rfl⟩:=zi7 hc h hv hq
 exact uh.2 ⟨x,A.F.pU (uJ A.F.first) h1,rfl⟩
noncomputable def JA (c:aq) (aj:Int) (p:aG) (P:List Int):Bool:=bn (wa c P).1 aj (pp P p)
theorem Vr {P:List Int} {ks:List aK} (h:bE c P ks):JA c aj p P=bn (cp c ks) aj (pp P p):=by
 unfold JA;rw [h.eq]
theorem Vs {i:Nat} (hi:i < (zD ρ c.zw.length).length):∃ r,r < c.zw.length∧ρ r=r∧(zD ρ c.zw.length)[i]=rQ c ρ r:=by
 unfold zD at hi ⊢
 rw [ul] at hi
 rw [List.getElem_map]
 have:=YE.1 (uk hi)
 exact ⟨_,this.1,this.2,rfl⟩
theorem XQ:(zD ρ c.zw.length).length≤c.zw.length:=by
 unfold zD qL
 rw [ul]
 have:=uz (fun x=>ρ x == x) (ur c.zw.length)
 simpa using this
theorem zkK (r:Nat):(rQ c ρ r).length≤c.zw.length:=by
 show (jG ρ r c.zw.length).length≤_
 unfold jG
 rw [ul]
 have:=uz (fun x=>ρ x == r) (ur c.zw.length)
 simpa using this
theorem zkL (r:Nat):∀ x∈rQ c ρ r,0≤x∧x < c.zw.length:=fun x hx=>by
 obtain ⟨h1,h2,_⟩:=ZJ.1 hx;exact ⟨h1,h2⟩
theorem zkM (hc:c.Ok) {P:List Int} {ks:List aK} (hl:P.length≤400) (h:bE c P ks):kB c P=some (cp c ks,0):=by
 rw [zmP c P (hc.off.lt (by omega)) (fun k hk=>(hc.zw.2 k hk).start.lt (by omega)) (by omega),h.eq]
theorem Kq (hc:c.Ok) (hv:(zF c).1=0):∃ ρ,cq c ρ∧zV c=some (zD ρ c.zw.length):=
 zcC c (hc.off.lt (by omega)) (fun k hk=>(hc.zw.2 k hk).start.lt (by omega)) hv
theorem zhA (hc:c.Ok) (ec:xG c aj p.state=true) {P:List Int} {ks:List aK} (h:bE c P ks) :
  ay (jT (cp c ks) aj (pp P p)) (fun r=>(r.2=0∧bY (cp c ks) aj (pp P p) r.1)∨(r.2=3∧¬ ∃ a,bY c aj p a)):=by
 obtain ⟨h0,h1,hv⟩:=jK.1 ec
 have tC:xG (cp c ks) aj (pp P p).state=true:=jK.2 ⟨h0,h1,Wr hc h hv⟩
 refine ay.mono (Vp (h.pT hc) tC) ?_
 rintro r (⟨g1,g2,g3⟩ | ⟨g1,g2⟩)
 ·exact .inl ⟨g1,h0,h1,g2,g3⟩
 ·exact .inr ⟨g1,fun ⟨a,A⟩=>zhz hc h hv A g2⟩
theorem LS {d:aq} {q:aG} {a:b9} (A:bY d aj q a):∃ hp:0 < a.aY.length,a.aY[0]=q:=by
 have h:=A.F.first
 have hp:=(uc.1 h).1
 refine ⟨hp,?_⟩
 rw [ua hp] at h
 exact Option.some.inj h
theorem zfm {d:aq} (hd:d.Ok) {q:aG} {a:b9} (A:bY d aj q a):ze (a.aY.map (bn d aj)) 0=some (bn d aj q):=by
 obtain ⟨hp,e⟩:=LS A
 have:=QU A hp
 rw [e] at this
 exact this
end
end
section
section
variable {e U:aq} {off:Nat} {s:aH} {aj:Int} {p:aG}
def LU (e:aq) (p:aG):aG:={state:={p.state with used:=uO e.aC.length false},own:=p.own}
theorem cY.dn (E:cY e U off) (hv:VS e p.state):LU e (fD U p)=p:=by
 obtain ⟨⟨d,hs,us,ms⟩,o⟩:=p
 have:=E.used hv
 simp only at this
 subst this
 rfl
theorem cY.pU (E:cY e U off) (hv:VS e p.state) {q:aG} (h:lz e aj p q):VS e q.state∧lz U aj (fD U p) (fD U q):=by
 induction h with
 | base=>exact ⟨hv,.base⟩
 | step _ hm ih=>
  obtain ⟨h1,h2⟩:=ih
  refine ⟨vD E.oK h1 hm,?_⟩
  rw [←E.target h1 hm]
  exact .step h2 ((E.bg h1).2 ⟨_,hm,rfl⟩)
theorem cY.pX (E:cY e U off) (hv:VS e p.state) {x:aG} (h:lz U aj (fD U p) x):∃ q,VS e q.state∧lz e aj p q∧x=fD U q:=by
 induction h with
 | base=>exact ⟨p,hv,.base,rfl⟩
 | step _ hm ih=>
  obtain ⟨q,h1,h2,rfl⟩:=ih
  obtain ⟨y,hy,rfl⟩:=(E.bg h1).1 hm
  exact ⟨_,vD E.oK h1 hy,.step h2 hy,E.target h1 hy⟩
theorem cY.many1 (E:cY e U off) (hv:VS e p.state) {a:b9} (A:bY e aj p a):¬ Vo U aj (fD U p):=by
 refine Vq (L:=a.aY.map (fD U)) (by rw [ul];exact A.F.inv.len) fun x hx => ?_
 obtain ⟨q,h1,h2,rfl⟩:=E.pX hv hx
 exact uh.2 ⟨q,A.F.pU (uJ A.F.first) h2,rfl⟩
theorem cY.BC (E:cY e U off) (hv:VS e p.state) {a:b9} (A:bY U aj (fD U p) a):¬ Vo e aj p:=by
 refine Vq (L:=a.aY.map (LU e)) (by rw [ul];exact A.F.inv.len) fun q hq => ?_
 obtain ⟨h1,h2⟩:=E.pU hv hq
 exact uh.2 ⟨fD U q,A.F.pU (uJ A.F.first) h2,E.dn h1⟩
theorem cY.BD (E:cY e U off) (hv:VS e p.state) (h0:0≤aj) (h1:aj < e.aT):(∃ a,bY U aj (fD U p) a∧jT U aj (fD U p)=some (a,0))↔∃ a,bY e aj p a∧jT e aj p=some (a,0):=by
 have ET:xG e aj p.state=true:=jK.2 ⟨h0,h1,hv⟩
 have EU:xG U aj (fD U p).state=true:=jK.2 ⟨h0,by rw [E.o8];exact h1,E.vs hv⟩
 obtain ⟨⟨a,x⟩,hf,hr⟩:=Vp E.oK (p:=p) ET
 obtain ⟨⟨b,y⟩,hg,hs⟩:=Vp E.Ae (p:=fD U p) EU
 constructor
 ·rintro ⟨b',B,_⟩
  rcases hr with ⟨g1,g2,g3⟩ | ⟨_,g2⟩
  ·simp only at g1 g2 g3
   subst g1
   exact ⟨a,⟨h0,h1,g2,g3⟩,hf⟩
  ·exact absurd g2 (E.BC hv B)
 ·rintro ⟨a',A,_⟩
  rcases hs with ⟨g1,g2,g3⟩ | ⟨_,g2⟩
  ·simp only at g1 g2 g3
   subst g1
   exact ⟨b,⟨h0,by rw [E.o8];exact h1,g2,g3⟩,hg⟩
  ·exact absurd g2 (E.many1 hv A)
end
end
section
noncomputable def tk (c:aq) (s:aH):Nat→aH
 | 0=>s
 | d+1=>ql c (tk c s d) (-1)
theorem LV {c:aq} (hc:c.Ok) {s:aH} (hv:VS c s):∀ d:Nat,s.day+d≤c.bh→VS c (tk c s d)∧(tk c s d).day=s.day+d
 | 0,_=>⟨hv,by simp [tk]⟩
 | d+1,h=>by
  obtain ⟨h1,h2⟩:=LV hc hv d (by omega)
  obtain ⟨_,h3,h4,_⟩:=jg hc h1 (a := -1) (by omega) (by omega) (by omega)
  have h5:=(h4 rfl).1
  exact ⟨h3,by show (ql c (tk c s d) (-1)).day=_;rw [h5,h2];omega⟩
def dB (s:aH):aG:={state:=s,own:=true}
def tD (s:aH):aG:={state:=s,own:=false}
def yc (c:aq) (aj:Int) (s:aH) (w:Int):Prop:=
 (w = -1∧∀ d:Nat,s.day+d < c.bh→bn c aj (dB (tk c s (d+1)))=true) ∨
 (∃ n:Nat,w=(n:Int)∧s.day+n < c.bh∧(∀ d:Nat,d < n→bn c aj (dB (tk c s (d+1)))=true)∧bn c aj (dB (tk c s (n+1)))=false)
section
variable {c:aq} {aj:Int} {p:aG} {a:b9}
theorem WY (hc:c.Ok) (A:bY c aj p a) {i:Nat} (hi:i < a.aY.length) (x:Int):ay (kz a (i:Int) x) (fun r=>(x∈zq c aj a.aY[i]∧r.2=true∧∃ j,∃ hj:j < a.aY.length,r.1=(j:Int)∧a.aY[j]=target c a.aY[i] x)∨(x ∉ zq c aj a.aY[i]∧r=(0,false))):=by
 obtain ⟨T,hT,hst,_⟩:=A.mv hi
 have Bz:=A.len hc hi hT
 unfold kz
 refine ay.ax (zB hT) ?_
 refine ay.bind (P:=fun o:Unit ⊕ Int=>(∃ m∈T,m.step=x∧o=.inr m.to)∨(o=.inl ()∧∀ m∈T,m.step≠x)) (ay.eE (fun k _=>∀ (j:Nat) (hj:j < T.length),j < k→T[j].step≠x) (by omega) (fun j _ hj=>by omega) (fun k _ hk hk2 => ?_) (fun _ h=>.inr ⟨rfl,fun m hm=>by obtain ⟨j,hj,rfl⟩:=uv hm;exact h j hj hj⟩)) ?_
 ·refine ay.ax (zB (ua hk)) ?_
  refine ay.ite (fun h=>ay.some (.inl ⟨_,uk hk,by simpa using h,rfl⟩)) (fun h=>ay.some fun j hj hjk => ?_)
  by_cases e:j=k
  ·subst e;simpa using h
  ·exact hk2 j hj (by omega)
 ·rintro _ (⟨m,hm,e,rfl⟩ | ⟨rfl,h⟩)
  ·obtain ⟨t1,t2,t3,t4⟩:=A.tgt hi hT hm
   rw [e] at t1 t4
   exact ay.some (.inl ⟨t1,rfl,m.to.toNat,t3,(uT t2).symm,t4⟩)
  ·refine ay.some (.inr ⟨fun hx => ?_,rfl⟩)
   rw [←hst] at hx
   obtain ⟨m,hm,e⟩:=uh.1 hx
   exact h m hm e
theorem zi8 {q:aG} (ho:q.own=true):(-2:Int)∈zq c aj q:=qh.2 (.inl ⟨ho,rfl⟩)
theorem zi9 {q:aG} (ho:q.own=false) (hd:q.state.day < c.bh):(-1:Int)∈zq c aj q:=qh.2 (.inr (.inl ⟨hd,ho,rfl⟩))
theorem zja (hc:c.Ok) {s:aH} (hv:VS c s) (A:bY c aj (dB s) a):ay (Yy c a (a.aY.map (bn c aj))) (yc c aj s):=by
 unfold Yy
 have lN:=hv.day
 have hcd:c.bh≤2000:=(qy (hc.off.lt (by omega)) hv.cv).bh.2
 refine ay.bind (P:=fun o:Unit ⊕ Int=>(o=.inl ()∧yc c aj s (-1))∨∃ w,o=.inr w∧yc c aj s w) ?_ ?_
 ·refine ay.bind (P:=fun o:Unit ⊕ Int=>(o=.inl ()∧yc c aj s (-1))∨∃ w,o=.inr w∧yc c aj s w)
   (ay.iter (fun x:Int×Int=>∃ d:Nat,x.1=(d:Int)∧s.day+d≤c.bh∧(∀ d',d' < d→bn c aj (dB (tk c s (d'+1)))=true)∧∃ j,∃ hj:j < a.aY.length,x.2=(j:Int)∧a.aY[j]=dB (tk c s d)) (fun x=>(c.bh - s.day - x.1).toNat)
    ⟨0,rfl,by omega,fun d' h=>by omega,0,A.pos,rfl,by have:=A.F.first;rw [ua A.pos] at this;exact Option.some.inj this⟩ (fun x hx => ?_)) ?_
  ·obtain ⟨bh,eR⟩:=x
   obtain ⟨d,h1,h2,h3,j,hj,h4,h5⟩:=hx
   simp only at h1 h4 ⊢
   subst h1 h4
   obtain ⟨v1,v2⟩:=LV hc hv d h2
   refine ay.ax (zB (ua hj)) ?_
   rw [h5]
   refine ay.ite (fun h => ?_) (fun h => ?_)
   ·have hlt:s.day+d < c.bh:=by
     have h:(tk c s d).day < c.bh:=of_decide_eq_true h
     omega
    refine ay.bind (WY hc A hj (-2)) ?_
    intro r hr
    obtain ⟨_,_,j1,fe,g1,g2⟩:=hr.resolve_right (fun h=>by rw [h5] at h;exact h.1 (zi8 rfl))
    rw [g1]
    rw [h5,WW] at g2
    refine ay.bind (WY hc A fe (-1)) ?_
    intro r2 cz
    obtain ⟨_,_,j2,hj2,g3,g4⟩:=cz.resolve_right (fun h=>by rw [g2] at h;exact h.1 (zi9 rfl (by show (tk c s d).day < c.bh;omega)))
    rw [g3]
    rw [g2,WX c _ (by omega)] at g4
    have g4:a.aY[j2]=dB (tk c s (d+1)):=g4
    refine ay.ax (QU A hj2) ?_
    rw [g4]
    refine ay.ite (fun hs => ?_) (fun hs => ?_)
    ·rw [qf (by omega) (by omega)]
     refine ay.some ⟨⟨d+1,rfl,by omega,fun d' BN => ?_,j2,hj2,rfl,g4⟩,by simp only;omega⟩
     by_cases e:d'=d
     ·rw [e];exact hs
     ·exact h3 d' (by omega)
    ·exact ay.some (.inr ⟨_,rfl,.inr ⟨d,rfl,hlt,h3,hs⟩⟩)
   ·have hge:c.bh≤s.day+d:=by
     have h:¬ (tk c s d).day < c.bh:=of_decide_eq_false h
     omega
    exact ay.some (.inl ⟨rfl,.inl ⟨rfl,fun d' BN=>h3 d' (by omega)⟩⟩)
  ·rintro _ (⟨rfl,h⟩ | ⟨w,rfl,h⟩)
   ·exact ay.some (.inl ⟨rfl,h⟩)
   ·exact ay.some (.inr ⟨w,rfl,h⟩)
 ·rintro _ (⟨rfl,h⟩ | ⟨w,rfl,h⟩)
  ·exact ay.some h
  ·exact ay.some h
def BE (c:aq) (aj:Int) (s:aH) (v:aW):Prop:=
 (bn c aj (dB s)=false∧v={safe:=false,move := -2,wait:=0})∨(bn c aj (dB s)=true∧v.safe=true∧v.move=jH c aj (dB s)∧yc c aj s v.wait)
theorem zhB (hc:c.Ok) {s:aH} (hv:VS c s) (A:bY c aj (dB s) a) (hf:jT c aj (dB s)=some (a,0)):ay (dU c aj s) (fun r=>r.2=0∧BE c aj s r.1):=by
 unfold dU
 refine ay.ax hf ?_
 refine ay.ite (fun _ => ?_) (fun h=>by cases h)
 have hp:=A.pos
 have h0:a.aY[0]=dB s:=by have:=A.F.first;rw [ua hp] at this;exact Option.some.inj this
 refine ay.ax (LO hc A) ?_
 have hs0:=QU A hp
 rw [h0] at hs0
 refine ay.ax hs0 ?_
 refine ay.ite (fun hs => ?_) (fun hs=>ay.some ⟨rfl,.inl ⟨hs,rfl⟩⟩)
 refine ay.ax (zdo hc A) ?_
 have ha0:ze (a.aY.map (jH c aj)) ((0:Nat):Int)=some (jH c aj (dB s)):=zB (by rw [ue,ua hp,h0];rfl)
 refine ay.ax ha0 ?_
 refine ay.bind (zja hc hv A) ?_
 intro w hw
 exact ay.some ⟨rfl,.inr ⟨hs,rfl,rfl,hw⟩⟩
end
end
section
section
variable {c:aq} {aj:Int} {p:aG} {a:b9}
theorem zkN {q:aG} (ho:q.own=true) (hs:bn c aj q=true):jH c aj q∈zq c aj q∧bn c aj (target c q (jH c aj q))=true∧∀ m∈zq c aj q,bn c aj (target c q m)=true→jH c aj q≤m:=by
 obtain ⟨_,m0,hm0,hs0⟩:=(zi4 ho).1 (q8.1 hs)
 have lA:jH c aj q=((zq c aj q).find? fun m=>bn c aj (target c q m)).getD (-2):=by unfold jH;rw [ho,hs];rfl
 cases hf:(zq c aj q).find? (fun m=>bn c aj (target c q m)) with
 | none=>
  have:=u7.1 hf m0 hm0
  rw [q8.2 hs0] at this
  exact absurd rfl this
 | some x=>
  rw [hf] at lA
  have lA:jH c aj q=x:=lA
  obtain ⟨h1,i,hi,h2,h3⟩:=uP.1 hf
  rw [lA]
  refine ⟨by rw [←h2];exact uk hi,h1,fun m hm hsm => ?_⟩
  obtain ⟨j,hj,rfl⟩:=uv hm
  by_cases e:j < i
  ·have:=h3 j e
   rw [hsm] at this;cases this
  ·by_cases e2:j=i
   ·subst e2;omega
   ·have:=List.pairwise_iff_getElem.1 (zhm c aj q) i j hi hj (by omega)
    omega
end
end
section
def BF (c:aq) (aj:Int) (s:aH) (x:Int):Prop:=x∈zq c aj (dB s)∧x ≠ -2∧xf c aj (target c (dB s) x)
def eb (S:Int→Prop) (m:Int):Prop:=(m = -2∧∀ x,¬ S x)∨(m ≠ -2∧S m∧∀ x,S x→m≤x)
theorem eb.eq {S:Int→Prop} {a b:Int} (ha:eb S a) (hb:eb S b):a=b:=by
 rcases ha with ⟨a1,a2⟩ | ⟨a0,a1,a2⟩<;>rcases hb with ⟨b1,b2⟩ | ⟨b0,b1,b2⟩
 ·omega
 ·exact absurd b1 (a2 b)
 ·exact absurd a1 (b2 a)
 ·have:=a2 b b1;have:=b2 a a1;omega
theorem eb.congr {S T:Int→Prop} {m:Int} (h:eb S m) (e:∀ x,S x↔T x):eb T m:=by
 rcases h with ⟨a1,a2⟩ | ⟨a0,a1,a2⟩
 ·exact .inl ⟨a1,fun x hx=>a2 x ((e x).2 hx)⟩
 ·exact .inr ⟨a0,(e m).1 a1,fun x hx=>a2 x ((e x).2 hx)⟩
theorem eb.step {S T:Int→Prop} {m y:Int} {b:Bool} (h:eb S m) (hy:b=true→y ≠ -2) (e:∀ x,T x↔S x∨(b=true∧x=y)):eb T (bif b&&(m == -2||decide (y < m)) then y else m):=by
 cases b with
 | false=>exact h.congr fun x=>by rw [e x];simp
 | true=>
  have hy:=hy rfl
  rcases h with ⟨a1,a2⟩ | ⟨a0,a1,a2⟩
  ·have:(m == -2)=true:=beq_iff_eq.2 a1
   rw [this]
   refine .inr ⟨hy,(e y).2 (.inr ⟨rfl,rfl⟩),fun x hx => ?_⟩
   rcases (e x).1 hx with g | ⟨_,rfl⟩
   ·exact absurd g (a2 x)
   ·exact u4 _
  ·have:(m == -2)=false:=beq_eq_false_iff_ne.2 a0
   rw [this]
   by_cases hlt:y < m
   ·rw [decide_eq_true hlt]
    refine .inr ⟨hy,(e y).2 (.inr ⟨rfl,rfl⟩),fun x hx => ?_⟩
    rcases (e x).1 hx with g | ⟨_,rfl⟩
    ·have:=a2 x g;show y≤x;omega
    ·exact u4 _
   ·rw [decide_eq_false hlt]
    refine .inr ⟨a0,(e m).2 (.inl a1),fun x hx => ?_⟩
    rcases (e x).1 hx with g | ⟨_,rfl⟩
    ·exact a2 x g
    ·show m≤x;omega
def eo (l:List Int) (w:Int):Prop:=(w = -1∧∀ x∈l,x < 0)∨(0≤w∧w∈l∧∀ x∈l,0≤x→w≤x)
theorem eo.step {l:List Int} {w y:Int} (h:eo l w):eo (l++[y]) (bif decide (0≤y)&&(decide (w < 0)||decide (y < w)) then y else w):=by
 by_cases h0:0≤y
 ·rw [decide_eq_true h0]
  rcases h with ⟨a1,a2⟩ | ⟨a0,a1,a2⟩
  ·rw [decide_eq_true (show w < 0 by omega)]
   refine .inr ⟨h0,by simp,fun x hx hx0 => ?_⟩
   rcases ub.1 hx with g | g
   ·have:=a2 x g;omega
   ·rw [un] at g;subst g;exact u4 _
  ·rw [decide_eq_false (show ¬ w < 0 by omega)]
   by_cases hlt:y < w
   ·rw [decide_eq_true hlt]
    refine .inr ⟨h0,by simp,fun x hx hx0 => ?_⟩
    rcases ub.1 hx with g | g
    ·have:=a2 x g hx0;show y≤x;omega
    ·rw [un] at g;subst g;exact u4 _
   ·rw [decide_eq_false hlt]
    refine .inr ⟨a0,by simp [a1],fun x hx hx0 => ?_⟩
    rcases ub.1 hx with g | g
    ·exact a2 x g hx0
    ·rw [un] at g;subst g;show w≤x;omega
 ·rw [decide_eq_false h0]
  rcases h with ⟨a1,a2⟩ | ⟨a0,a1,a2⟩
  ·refine .inl ⟨a1,fun x hx => ?_⟩
   rcases ub.1 hx with g | g
   ·exact a2 x g
   ·rw [un] at g;subst g;omega
  ·refine .inr ⟨a0,by simp [a1],fun x hx hx0 => ?_⟩
   rcases ub.1 hx with g | g
   ·exact a2 x g hx0
   ·rw [un] at g;subst g;omega
section
variable {c:aq} {ρ:Nat→Nat} {aj:Int} {s:aH}
theorem YJ (c:aq) (s:aH):target c (dB s) (-2)=tD s:=if_pos rfl
theorem XR (hs:bn c aj (dB s)=true):(xf c aj (tD s)∧jH c aj (dB s) = -2)∨(¬ xf c aj (tD s)∧eb (BF c aj s) (jH c aj (dB s))∧jH c aj (dB s) ≠ -2):=by
 obtain ⟨g1,g2,g3⟩:=zkN (c:=c) (aj:=aj) (q:=dB s) rfl hs
 by_cases hp:xf c aj (tD s)
 ·left
  refine ⟨hp,?_⟩
  have:=g3 (-2) (qh.2 (.inl ⟨rfl,rfl⟩)) (by rw [YJ];exact q8.2 hp)
  rcases qh.1 g1 with ⟨_,g⟩ | ⟨_,g,_⟩ | ⟨_,i,_,_,g⟩
  ·exact g
  ·cases g
  ·omega
 ·right
  have hne:jH c aj (dB s) ≠ -2:=fun e=>by
   rw [e,YJ] at g2
   exact hp (q8.1 g2)
  exact ⟨hp,.inr ⟨hne,⟨g1,hne,q8.1 g2⟩,fun x hx=>g3 x hx.1 (q8.2 hx.2.2)⟩,hne⟩
theorem zhC {w w':Int} (h:yc c aj s w) (h':yc c aj s w'):w=w':=by
 rcases h with ⟨rfl,h⟩ | ⟨n,rfl,h1,h2,h3⟩<;>rcases h' with ⟨rfl,g⟩ | ⟨m,rfl,g1,g2,g3⟩
 ·rfl
 ·have:=h m g1;rw [g3] at this;cases this
 ·have:=g n h1;rw [h3] at this;cases this
 ·rcases Nat.lt_trichotomy n m with e | e | e
  ·have:=g2 n e;rw [h3] at this;cases this
  ·rw [e]
  ·have:=h2 m e;rw [g3] at this;cases this
noncomputable def gD (c:aq) (aj:Int) (s:aH) (P:List Int):aW:=((dU (wa c P).1 aj (rs P s)).getD ({safe:=false,move:=0,wait:=0},1)).1
theorem zkO (hc:c.Ok) (hv:VS c s) {P:List Int} {ks:List aK} (h:bE c P ks) {a:b9} (A:bY (cp c ks) aj (dB (rs P s)) a) (hf:jT (cp c ks) aj (dB (rs P s))=some (a,0)) :
  dU (cp c ks) aj (rs P s)=some (gD c aj s P,0)∧BE (cp c ks) aj (rs P s) (gD c aj s P):=by
 obtain ⟨⟨v,e⟩,h1,h2,h3⟩:=zhB (h.pT hc) (Wr hc h hv) A hf
 simp only at h2 h3
 subst h2
 have:gD c aj s P=v:=by
  unfold gD
  rw [h.eq]
  show ((dU (cp c ks) aj (rs P s)).getD _).1=v
  rw [h1];rfl
 rw [this]
 exact ⟨h1,h3⟩
structure gF (c:aq) (aj:Int) (s:aH) (Ps:List (List Int)) (v:Bool×Int×Int×Bool):Prop where
 safe:v.1=Ps.all (JA c aj (dB s))
 move:eb (fun x=>∃ P∈Ps,BF (wa c P).1 aj (rs P s) x) v.2.1
 wait:eo (Ps.map fun P=>(gD c aj s P).wait) v.2.2.1
 pass:v.2.2.2=Ps.all fun P=>(gD c aj s P).move == -2
 ok:∀ P∈Ps,BE (wa c P).1 aj (rs P s) (gD c aj s P)
def xX (c:aq) (aj:Int) (s:aH) (P:List Int):Prop:=∃ a,bY (wa c P).1 aj (dB (rs P s)) a∧jT (wa c P).1 aj (dB (rs P s))=some (a,0)
theorem zdp (hc:c.Ok) (ec:xG c aj s=true) {P:List Int} {ks:List aK} (h:bE c P ks) {Ps:List (List Int)} {v:Bool×Int×Int×Bool} (hI:gF c aj s Ps v) :
  ay (XD P (cp c ks) (rs P s) true aj v.1 v.2.1 v.2.2.1 v.2.2.2) (fun r=>(r.1=3∧(¬ ∃ a,bY c aj (dB s) a)∧¬ xX c aj s P)∨(r.1=0∧xX c aj s P∧gF c aj s (Ps++[P]) r.2)):=by
 obtain ⟨p0,p1,hv⟩:=jK.1 ec
 have hok:=h.pT hc
 obtain ⟨b0,m0,w0,q0⟩:=v
 obtain ⟨i1,i2,i3,i4,i5⟩:=hI
 simp only at i1 i2 i3 i4 ⊢
 unfold XD
 obtain ⟨⟨a,e⟩,hf,cz⟩:=zhA hc (p:=dB s) ec h
 refine ay.ax hf ?_
 rcases cz with ⟨g1,A⟩ | ⟨g1,g2⟩
 case inr=>
  simp only at g1
  subst g1
  refine ay.some (.inl ⟨rfl,g2,fun ⟨a',_,h'⟩ => ?_⟩)
  rw [h.eq] at h'
  cases hf.symm.trans h'
 simp only at g1 A
 subst g1
 obtain ⟨lA,hAR⟩:=zkO hc hv h A hf
 obtain ⟨rK,ep⟩:=LS A
 obtain ⟨T,hT,hst,_⟩:=A.mv rK
 have Bz:=A.len hok rK hT
 rw [ep] at hst
 refine ay.ite (fun _ => ?_) (fun h=>by cases h)
 refine ay.ax (LO hok A) ?_
 refine ay.ax lA ?_
 refine ay.ite (fun _ => ?_) (fun h=>by cases h)
 refine ay.ax (v:=b0&&JA c aj (dB s) P) ?_ ?_
 ·rw [zfm hok A,Vr h]
  cases b0<;>rfl
 refine ay.ax (v:=q0&&((gD c aj s P).move == -2)) ?_ ?_
 ·cases q0<;>rfl
 refine ay.ax (zB hT) ?_
 refine ay.bind (P:=fun o:Int ⊕ Unit=>∃ m,o=.inl m∧eb (fun x=>(∃ Q∈Ps,BF (wa c Q).1 aj (rs Q s) x)∨BF (cp c ks) aj (rs P s) x) m) (ay.eE (fun i m=>eb (fun x=>(∃ Q∈Ps,BF (wa c Q).1 aj (rs Q s) x)∨∃ (j:Nat) (hj:j < T.length),j < i∧x=T[j].step∧x ≠ -2∧xf (cp c ks) aj (target (cp c ks) (dB (rs P s)) x)) m) (by omega) (i2.congr fun x => ?_) (fun i m hi hm => ?_) (fun m hm=>⟨m,rfl,hm.congr fun x => ?_⟩)) ?_
 ·constructor
  ·exact .inl
  ·rintro (g | ⟨j,_,hj,_⟩)
   ·exact g
   ·omega
 ·have hTi:=ua hi
  refine ay.ax (v:=bif (bif T[i].step == -2 then false else bn (cp c ks) aj (target (cp c ks) (dB (rs P s)) T[i].step))&&(m == -2||decide (T[i].step < m)) then T[i].step else m) ?_ ?_
  ·rw [zB hTi]
   simp only [bf]
   cases hb:(T[i].step == -2) with
   | true=>simp
   | false=>
    have hto:=LP A rK hT (uk hi)
    rw [ep] at hto
    have hto:ze (a.aY.map (bn (cp c ks) aj)) T[i].to=some (bn (cp c ks) aj (target (cp c ks) (dB (rs P s)) T[i].step)):=hto
    simp only [cy,hto,bf]
    cases bn (cp c ks) aj (target (cp c ks) (dB (rs P s)) T[i].step)<;>cases (m == -2)<;>cases decide (T[i].step < m)<;>rfl
  refine ay.some ?_
  refine eb.step hm (fun hb => ?_) fun x => ?_
  ·intro e
   rw [e] at hb
   simp at hb
  ·constructor
   ·rintro (g | ⟨j,hj,hji,e1,e2,e3⟩)
    ·exact .inl (.inl g)
    ·rcases uq j i with h1 | h1
     ·exact .inl (.inr ⟨j,hj,h1,e1,e2,e3⟩)
     ·obtain rfl:j=i:=by omega
      refine .inr ⟨?_,e1⟩
      rw [←e1,beq_eq_false_iff_ne.2 e2]
      exact q8.2 e3
   ·rintro ((g | ⟨j,hj,hji,e1,e2,e3⟩) | ⟨hb,e1⟩)
    ·exact .inl g
    ·exact .inr ⟨j,hj,by omega,e1,e2,e3⟩
    ·refine .inr ⟨i,hi,by omega,e1,?_,?_⟩
     ·intro e2
      rw [←e1,e2] at hb
      simp at hb
     ·cases h2:(T[i].step == -2) with
      | true=>rw [h2] at hb;cases hb
      | false=>rw [h2,cy] at hb;rw [e1];exact q8.1 hb
 ·constructor
  ·rintro (g | ⟨j,hj,_,e1,e2,e3⟩)
   ·exact .inl g
   ·refine .inr ⟨?_,e2,e3⟩
    have:T[j].step∈T.map (fun m:bk=>m.step):=uh.2 ⟨_,uk hj,rfl⟩
    rw [e1]
    rw [hst] at this
    exact this
  ·rintro (g | ⟨e1,e2,e3⟩)
   ·exact .inl g
   ·right
    have e1:x∈zq (cp c ks) aj (pp P (dB s)):=e1
    rw [←hst] at e1
    obtain ⟨t,ht,e4⟩:=uh.1 e1
    obtain ⟨j,hj,rfl⟩:=uv ht
    exact ⟨j,hj,hj,e4.symm,e2,e3⟩
 ·rintro _ ⟨m,rfl,hm⟩
  refine ay.ax (v:=bif decide (0≤(gD c aj s P).wait)&&(decide (w0 < 0)||decide ((gD c aj s P).wait < w0)) then (gD c aj s P).wait else w0) ?_ ?_
  ·simp only
   cases decide (0≤(gD c aj s P).wait)<;>cases decide (w0 < 0)<;>cases decide ((gD c aj s P).wait < w0)<;>rfl
  refine ay.some (.inr ⟨rfl,⟨a,by rw [h.eq];exact A,by rw [h.eq];exact hf⟩,?_,?_,?_,?_,?_⟩)
  ·show (b0&&JA c aj (dB s) P)=_
   rw [i1,uK];simp
  ·refine hm.congr fun x => ?_
   simp only [ub,un]
   constructor
   ·rintro (⟨Q,hQ,g⟩ | g)
    ·exact ⟨Q,.inl hQ,g⟩
    ·exact ⟨P,.inr rfl,by rw [h.eq];exact g⟩
   ·rintro ⟨Q,hQ | rfl,g⟩
    ·exact .inl ⟨Q,hQ,g⟩
    ·rw [h.eq] at g;exact .inr g
  ·show eo _ _
   rw [uL]
   exact i3.step
  ·show (q0&&((gD c aj s P).move == -2))=_
   rw [i4,uK];simp
  ·intro Q hQ
   rcases ub.1 hQ with g | g
   ·exact i5 Q g
   ·rw [un] at g
    subst g
    rw [h.eq];exact hAR
theorem zcM (hc:c.Ok) (ec:xG c aj s=true) (R:cq c ρ) (hC:zV c=some (zD ρ c.zw.length)) :
  ay (XE c aj s true aj true (-2) (-1) true) (fun r=>(r.1=3∧(¬ ∃ a,bY c aj (dB s) a)∧∃ P∈zD ρ c.zw.length,¬ xX c aj s P)∨(r.1=0∧(∀ P∈zD ρ c.zw.length,xX c aj s P)∧gF c aj s (zD ρ c.zw.length) r.2)):=by
 obtain ⟨h0,h1,hv⟩:=jK.1 ec
 have sm:=qy (hc.off.lt (by omega)) hv.cv
 have dZ:=sm.zw
 have tC:=XQ (c:=c) (ρ:=ρ)
 have sP:=fun i (hi:i < (zD ρ c.zw.length).length)=>Vs (c:=c) (ρ:=ρ) hi
 generalize hL:zD ρ c.zw.length=L at hC tC sP ⊢
 unfold XE
 refine ay.ax (v:=false) ?_ ?_
 ·rw [decide_eq_false (show ¬ aj < 0 by omega),decide_eq_false (show ¬ c.aT≤aj by omega),Jw c _ hc,YC hv];rfl
 refine ay.ite (fun h=>by cases h) (fun _ => ?_)
 refine ay.bind (P:=fun r:Int×Bool×Int×Int×Bool=>(r.1=3∧(¬ ∃ a,bY c aj (dB s) a)∧∃ P∈L,¬ xX c aj s P)∨(r.1=0∧(∀ P∈L,xX c aj s P)∧gF c aj s L r.2)) ?_ (fun v hv=>ay.some hv)
 refine ay.ax hC ?_
 refine ay.bind (P:=fun o:(Int×Bool×Int×Int×Bool) ⊕ (Int×Bool×Int×Int×Bool)=>match o with
  | .inl r=>r.1=0∧(∀ P∈L,xX c aj s P)∧gF c aj s L r.2
  | .inr r=>r.1=3∧(¬ ∃ a,bY c aj (dB s) a)∧∃ P∈L,¬ xX c aj s P) ?_ ?_
 ·refine ay.eE (fun i r=>r.1=0∧(∀ P∈L.take i,xX c aj s P)∧gF c aj s (L.take i) r.2) (by omega) ⟨rfl,fun P hP=>by simp at hP,rfl,.inl ⟨rfl,fun x ⟨P,hP,_⟩=>by simp at hP⟩,.inl ⟨rfl,fun x hx=>by simp at hx⟩,rfl,fun P hP=>by simp at hP⟩ ?_ (fun r hr=>⟨hr.1,by rw [Uc] at hr;exact hr.2⟩)
  rintro i ⟨e,v⟩ hi ⟨rfl,hH,hI⟩
  simp only at hI
  obtain ⟨r,hr,er,ep⟩:=sP i hi
  obtain ⟨ks,hks⟩:=ES hc hv.cv R r
  rw [←ep] at hks
  have LW:L[i].length≤400:=by rw [ep];have:=zkK (c:=c) (ρ:=ρ) r;omega
  have hPr:∀ x∈L[i],0≤x∧x < c.zw.length:=by rw [ep];exact zkL r
  refine ay.ax (zB (ua hi)) ?_
  refine ay.ax (zkM hc LW hks) ?_
  refine ay.bind (P:=fun v:Int×Bool×Int×Int×Bool=>(v.1=3∧(¬ ∃ a,bY c aj (dB s) a)∧¬ xX c aj s L[i])∨(v.1=0∧xX c aj s L[i]∧gF c aj s (L.take i++[L[i]]) v.2)) ?_ ?_
  ·refine ay.ite (fun _ => ?_) (fun h=>by cases h)
   refine ay.ax (zcI hc hv hPr LW) ?_
   refine ay.bind (zdp hc ec hks hI) ?_
   rintro r hr
   exact ay.some hr
  ·rintro ⟨e,v2⟩ (⟨g1,g2,g3⟩ | ⟨g1,g3,g2⟩)
   ·simp only at g1
    subst g1
    exact ay.some ⟨rfl,g2,_,uk hi,g3⟩
   ·simp only at g1 g2
    subst g1
    refine ay.some ⟨rfl,fun P hP => ?_,?_⟩
    ·rw [uD hi] at hP
     rcases ub.1 hP with q | q
     ·exact hH P q
     ·rw [un] at q;subst q;exact g3
    ·rw [uD hi]
     exact g2
 ·rintro (r | r) hr
  ·exact ay.some (.inr hr)
  ·exact ay.some (.inl hr)
end
end
section
section
variable {e U:aq} {off:Nat} {s:aH} {aj:Int}
theorem cY.bn (E:cY e U off) (hv:VS e s):Go.Proofs.YtlpmnmbebkdocaaGreatDoor.bn U aj (dB (dO U s))=Go.Proofs.YtlpmnmbebkdocaaGreatDoor.bn e aj (dB s):=by
 rw [uR,q8,q8]
 exact E.safe (p:=dB s) hv
theorem cY.tk (E:cY e U off) (hv:VS e s):∀ k:Nat,s.day+k≤e.bh→Go.Proofs.YtlpmnmbebkdocaaGreatDoor.tk U (dO U s) k=dO U (Go.Proofs.YtlpmnmbebkdocaaGreatDoor.tk e s k)∧VS e (Go.Proofs.YtlpmnmbebkdocaaGreatDoor.tk e s k)∧(Go.Proofs.YtlpmnmbebkdocaaGreatDoor.tk e s k).day=s.day+k
 | 0,_=>⟨rfl,hv,by show s.day=s.day+((0:Nat):Int);omega⟩
 | k+1,hk=>by
  obtain ⟨h1,h2,h3⟩:=E.tk hv k (by omega)
  have hd:(Go.Proofs.YtlpmnmbebkdocaaGreatDoor.tk e s k).day < e.bh:=by omega
  obtain ⟨_,g2,g3,_⟩:=jg E.oK h2 (a := -1) (by omega) (by omega) hd
  refine ⟨?_,g2,?_⟩
  ·show ql U (Go.Proofs.YtlpmnmbebkdocaaGreatDoor.tk U (dO U s) k) (-1)=_
   rw [h1,E.tick h2 hd];rfl
  ·have:=(g3 rfl).1
   show (ql e (Go.Proofs.YtlpmnmbebkdocaaGreatDoor.tk e s k) (-1)).day=_
   rw [this,h3];omega
theorem cY.wait (E:cY e U off) (hv:VS e s) {w:Int}:yc U aj (dO U s) w↔yc e aj s w:=by
 have hs:∀ d:Nat,s.day+d < e.bh→Go.Proofs.YtlpmnmbebkdocaaGreatDoor.bn U aj (dB (Go.Proofs.YtlpmnmbebkdocaaGreatDoor.tk U (dO U s) (d+1)))=Go.Proofs.YtlpmnmbebkdocaaGreatDoor.bn e aj (dB (Go.Proofs.YtlpmnmbebkdocaaGreatDoor.tk e s (d+1))):=fun d hd=>by
  obtain ⟨h1,h2,_⟩:=E.tk hv (d+1) (by omega)
  rw [h1,E.bn h2]
 have lg:(dO U s).day=s.day:=rfl
 unfold yc
 rw [lg,E.day]
 constructor
 ·rintro (⟨h1,h2⟩ | ⟨n,h1,h2,h3,h4⟩)
  ·exact .inl ⟨h1,fun d hd=>by rw [←hs d hd];exact h2 d hd⟩
  ·exact .inr ⟨n,h1,h2,fun d hd=>by rw [←hs d (by omega)];exact h3 d hd,by rw [←hs n h2];exact h4⟩
 ·rintro (⟨h1,h2⟩ | ⟨n,h1,h2,h3,h4⟩)
  ·exact .inl ⟨h1,fun d hd=>by rw [hs d hd];exact h2 d hd⟩
  ·exact .inr ⟨n,h1,h2,fun d hd=>by rw [hs d (by omega)];exact h3 d hd,by rw [hs n h2];exact h4⟩
end
end
section
theorem zmX {n:Nat} {ρ ρ':Nat→Nat} (F:fZ n ρ) (F':fZ n ρ') (h1:∀ i j,i < n→j < n→ρ i=ρ j→ρ' i=ρ' j) (h2:∀ i j,i < n→j < n→ρ' i=ρ' j→ρ i=ρ j):∀ i,i < n→ρ i=ρ' i:=fun i hi=>by
 have a1:=F.le i hi
 have a2:=F'.le i hi
 have b1:ρ' (ρ i)=ρ' i:=h1 (ρ i) i (by omega) hi (F.idem i hi)
 have b2:ρ (ρ' i)=ρ i:=h2 (ρ' i) i (by omega) hi (F'.idem i hi)
 have c1:=F'.le (ρ i) (by omega)
 have c2:=F.le (ρ' i) (by omega)
 omega
def gK (n na:Nat) (k:aK):aK:={iN na k with start:=k.start.map fun x=>{x with clause:=x.clause+n}}
structure eP (c d u:aq):Prop where
 BG:c.Ok
 o9:d.Ok
 vc:(zF c).1=0
 vd:(zF d).1=0
 cl:u.zw=c.zw++d.zw.map (gK c.zw.length c.aC.length)
 aC:u.aC=c.aC++d.aC
 kc:∀ a∈c.aC,a.kind=1
 kd:∀ a∈d.aC,a.kind=1
def mq (n:Nat) (ρ σ:Nat→Nat) (i:Nat):Nat:=if i < n then ρ i else n+σ (i - n)
theorem JB {c:aq} (hc:c.Ok) (hv:(zF c).1=0) {i:Nat} {k:aK} (hk:c.zw[i]?=some k) {a:Int} (ha:a∈jl k):0≤a∧a < (c.aC.length:Int):=by
 have kv:=xe (hc.off.lt (by omega:0 < 8)) hv hk
 have h1:=kv.act
 unfold jl at ha
 split at ha
 ·simp only [un] at ha;subst ha;exact h1
 ·rename_i hp
  rcases kv.aL with ⟨p1,_⟩ | ⟨p1,p2⟩
  ·exact absurd p1 hp
  ·have q1:=jB p1
   have q2:=jB p2
   simp only [uU,Ud,or_false] at ha
   rcases ha with rfl | rfl | rfl
   ·exact h1
   ·exact q1
   ·exact q2
theorem QV {c:aq} (hc:c.Ok) (hv:(zF c).1=0) {i:Nat} {k:aK} (hk:c.zw[i]?=some k) (n na:Nat) (a:Int):a∈jl (gK n na k)↔a - na∈jl k:=by
 have kv:=xe (hc.off.lt (by omega:0 < 8)) hv hk
 unfold jl
 rcases kv.aL with ⟨p1,_⟩ | ⟨p1,p2⟩
 ·have e1:(gK n na k).aL = -1:=by show dV na k.aL = -1;unfold dV;rw [p1];rfl
  rw [if_pos e1,if_pos p1]
  simp only [un]
  show a=k.act+na↔_
  omega
 ·have q1:=jB p1
  have q2:=jB p2
  have e1:(gK n na k).aL=k.aL+na:=by show dV na k.aL=_;unfold dV;rw [if_neg (by omega)]
  have e2:(gK n na k).cX=k.cX+na:=by show dV na k.cX=_;unfold dV;rw [if_neg (by omega)]
  have e3:(gK n na k).act=k.act+na:=rfl
  rw [if_neg (by omega),if_neg (by omega),e1,e2,e3]
  simp only [uU,Ud,or_false]
  omega
section
variable {c d u:aq} {ρ σ:Nat→Nat}
theorem eP.left (J:eP c d u) {i:Nat} (hi:i < c.zw.length):u.zw[i]?=c.zw[i]?:=by rw [J.cl,uA hi]
theorem eP.right (J:eP c d u) {i:Nat} (hi:c.zw.length≤i):u.zw[i]?=(d.zw[i - c.zw.length]?).map (gK c.zw.length c.aC.length):=by rw [J.cl,ut hi,ue]
theorem eP.len (J:eP c d u):u.zw.length=c.zw.length+d.zw.length:=by rw [J.cl];simp
theorem zdq (J:eP c d u) (R:cq c ρ) (S:cq d σ):cq u (mq c.zw.length ρ σ):=by
 have hlc:=J.len
 have kv:=fun {i:Nat} {k:aK} (h:c.zw[i]?=some k)=>xe (J.BG.off.lt (by omega:0 < 8)) J.vc h
 have kw:=fun {i:Nat} {k:aK} (h:d.zw[i]?=some k)=>xe (J.o9.off.lt (by omega:0 < 8)) J.vd h
 have inv:∀ {i:Nat} {k':aK},c.zw.length≤i→u.zw[i]?=some k'→∃ k,d.zw[i - c.zw.length]?=some k∧k'=gK c.zw.length c.aC.length k:=fun {i k'} hi h=>by
  rw [J.right hi] at h
  obtain ⟨k,h1,h2⟩:=uW.1 h
  exact ⟨k,h1,h2.symm⟩
 have oM:∀ {i:Nat},i < c.zw.length→mq c.zw.length ρ σ i=ρ i:=fun h=>if_pos h
 have oN:∀ {i:Nat},c.zw.length≤i→mq c.zw.length ρ σ i=c.zw.length+σ (i - c.zw.length):=fun h=>if_neg (by omega)
 have hw:∀ l:List aV,(∀ a∈l,a.kind=1)→xO l=false:=fun l hl=>by
  unfold xO
  rw [List.any_eq_false]
  intro a ha
  rw [hl a ha];decide
 refine ⟨fun Cu => ?_,fun E T i j hi hj he => ?_,⟨fun x hx => ?_,fun x hx => ?_⟩,fun i k' hk s hs => ?_,fun i j k' q' a hk hq ha hb => ?_⟩
 ·rw [hw u.aC (by rw [J.aC];intro a ha;rcases ub.1 ha with h | h;exact J.kc a h;exact J.kd a h)] at Cu
  cases Cu
 ·rcases uq i c.zw.length with hi1 | hi1
  ·rcases uq j c.zw.length with fe | fe
   ·rw [oM hi1,oM fe] at he
    refine R.least E ⟨T.rN,fun i k hk s hs=>T.start i k ?_ s hs,fun i j k q a hk hq=>T.gZ i j k q a ?_ ?_,fun h => ?_⟩ i j hi1 fe he
    ·rw [J.left (uc.1 hk).1];exact hk
    ·rw [J.left (uc.1 hk).1];exact hk
    ·rw [J.left (uc.1 hq).1];exact hq
    ·rw [hw _ J.kc] at h;cases h
   ·rw [oM hi1,oN fe] at he
    have:=R.fn.le i hi1
    omega
  ·rcases uq j c.zw.length with fe | fe
   ·rw [oN hi1,oM fe] at he
    have:=R.fn.le j fe
    omega
   ·rw [oN hi1,oN fe] at he
    have up:∀ {i:Nat} {k:aK},d.zw[i]?=some k→u.zw[i+c.zw.length]?=some (gK c.zw.length c.aC.length k):=fun {i k} h=>by
     rw [J.right (by omega),show i+c.zw.length - c.zw.length=i by omega,h];rfl
    have:=S.least (fun x y=>E (x+c.zw.length) (y+c.zw.length)) ⟨⟨fun x=>T.rN.refl _,fun x y h=>T.rN.symm _ _ h,fun x y z h1 h2=>T.rN.trans _ _ _ h1 h2⟩,fun i k hk s hs => ?_,fun i j k q a hk hq ha hb => ?_,fun h => ?_⟩ (i - c.zw.length) (j - c.zw.length) (by omega) (by omega) (by omega)
    ·rwa [show i - c.zw.length+c.zw.length=i by omega,show j - c.zw.length+c.zw.length=j by omega] at this
    ·have hr:=(kw hk).cond s hs
     have:=T.start _ _ (up hk) {s with clause:=s.clause+c.zw.length} (uh.2 ⟨s,hs,rfl⟩)
     have e1:(s.clause+(c.zw.length:Int)).toNat=s.clause.toNat+c.zw.length:=by omega
     simp only [e1] at this
     exact this
    ·exact T.gZ _ _ _ _ (a+c.aC.length) (up hk) (up hq) ((QV J.o9 J.vd hk _ _ _).2 (by rw [u9];exact ha)) ((QV J.o9 J.vd hq _ _ _).2 (by rw [u9];exact hb))
    ·rw [hw _ J.kd] at h;cases h
 ·rcases uq x c.zw.length with h | h
  ·rw [oM h];exact R.fn.le x h
  ·rw [oN h];have:=S.fn.le (x - c.zw.length) (by omega);omega
 ·rcases uq x c.zw.length with h | h
  ·have:=R.fn.le x h
   rw [oM h,oM (by omega)];exact R.fn.idem x h
  ·have:=S.fn.idem (x - c.zw.length) (by omega)
   rw [oN h,oN (by omega),show c.zw.length+σ (x - c.zw.length) - c.zw.length=σ (x - c.zw.length) by omega,this]
 ·rcases uq i c.zw.length with h | h
  ·rw [J.left h] at hk
   have hr:=(kv hk).cond s hs
   rw [oM h,oM (by omega)]
   exact R.start i k' hk s hs
  ·obtain ⟨k,h1,rfl⟩:=inv h hk
   obtain ⟨x,hx,rfl⟩:=uh.1 hs
   have hr:=(kw h1).cond x hx
   have e1:(x.clause+(c.zw.length:Int)).toNat=x.clause.toNat+c.zw.length:=by omega
   rw [oN h]
   show _=mq c.zw.length ρ σ (x.clause+(c.zw.length:Int)).toNat
   rw [e1,oN (by omega),S.start _ k h1 x hx,show x.clause.toNat+c.zw.length - c.zw.length=x.clause.toNat by omega]
 ·rcases uq i c.zw.length with hi1 | hi1
  ·rw [J.left hi1] at hk
   have r1:=JB J.BG J.vc hk ha
   rcases uq j c.zw.length with fe | fe
   ·rw [J.left fe] at hq
    rw [oM hi1,oM fe]
    exact R.gZ i j k' q' a hk hq ha hb
   ·obtain ⟨q,h1,rfl⟩:=inv fe hq
    have r2:=JB J.o9 J.vd h1 ((QV J.o9 J.vd h1 _ _ _).1 hb)
    omega
  ·obtain ⟨k,h1,rfl⟩:=inv hi1 hk
   have ha':=(QV J.o9 J.vd h1 _ _ _).1 ha
   have r1:=JB J.o9 J.vd h1 ha'
   rcases uq j c.zw.length with fe | fe
   ·rw [J.left fe] at hq
    have r2:=JB J.BG J.vc hq hb
    omega
   ·obtain ⟨q,h2,rfl⟩:=inv fe hq
    rw [oN hi1,oN fe,S.gZ _ _ k q _ h1 h2 ha' ((QV J.o9 J.vd h2 _ _ _).1 hb)]
end
end
theorem EV {n m:Nat} (p q:Nat→Bool) (h:∀ x,x < m→p (n+x)=q x):((ur m).map (n + ·)).filter p=((ur m).filter q).map (n + ·):=by
 rw [List.filter_map]
 congr 1
 exact uE fun x hx=>h x (ui.1 hx)
theorem zhD {n m:Nat} {ρ σ:Nat→Nat}:qL (mq n ρ σ) (n+m)=qL ρ n++(qL σ m).map (n + ·):=by
 unfold qL
 rw [u5,uy]
 congr 1
 ·exact uE fun x hx=>by
   have:=ui.1 hx
   unfold mq;rw [if_pos this]
 ·refine EV _ _ fun x hx => ?_
  unfold mq
  rw [if_neg (by omega),show n+x - n=x by omega]
  by_cases e:σ x=x
  ·rw [beq_iff_eq.2 e,beq_iff_eq.2 (by omega)]
  ·rw [beq_eq_false_iff_ne.2 e,beq_eq_false_iff_ne.2 (by omega)]
theorem zmY {n m r:Nat} {ρ σ:Nat→Nat} (hr:r < n):jG (mq n ρ σ) r (n+m)=jG ρ r n:=by
 unfold jG
 rw [u5,uy,uL,EV _ (fun _=>false) (fun x hx=>by
  unfold mq
  rw [if_neg (by omega)]
  exact beq_eq_false_iff_ne.2 (by omega)),uE (q:=fun x=>ρ x == r) fun x hx=>by
  have:=ui.1 hx
  unfold mq;rw [if_pos this]]
 simp
theorem zmZ {n m r:Nat} {ρ σ:Nat→Nat} (hρ:∀ x,x < n→ρ x≤x):jG (mq n ρ σ) (n+r) (n+m)=(jG σ r m).map (· + (n:Int)):=by
 unfold jG
 rw [u5,uy,uL,EV _ (fun x=>σ x == r) (fun x hx=>by
  unfold mq
  rw [if_neg (by omega),show n+x - n=x by omega]
  by_cases e:σ x=r
  ·rw [beq_iff_eq.2 e,beq_iff_eq.2 (by omega)]
  ·rw [beq_eq_false_iff_ne.2 e,beq_eq_false_iff_ne.2 (by omega)]),uE (q:=fun _=>false) fun x hx=>by
  have h:=ui.1 hx
  have:=hρ x h
  unfold mq;rw [if_pos h]
  exact beq_eq_false_iff_ne.2 (by omega)]
 rw [show (ur n).filter (fun _=>false)=[] by simp]
 simp only [List.map_nil,uB,uX]
 refine uw fun x _ => ?_
 simp only [Function.comp]
 omega
theorem zdr {n m:Nat} {ρ σ:Nat→Nat} (hρ:∀ x,x < n→ρ x≤x):zD (mq n ρ σ) (n+m)=zD ρ n++(zD σ m).map fun P=>P.map (· + (n:Int)):=by
 unfold zD
 rw [zhD,uL,uX,uX]
 congr 1
 ·refine uw fun r hr => ?_
  have:r < n:=by
   unfold qL at hr
   exact ui.1 (uo.1 hr).1
  exact zmY this
 ·exact uw fun r _=>zmZ hρ
section
theorem Ql {α β:Type} {g h:α→Option β}:∀ {l:List α},(∀ x∈l,g x=h x)→aI g l=aI h l
 | [],_=>rfl
 | a::l,hh=>by
  simp only [aI]
  rw [hh a (by simp),Ql fun x hx=>hh x (by simp [hx])]
section
variable {c d u:aq} {P:List Int} {ks:List aK}
theorem XS (J:eP c d u) (hv:(zF u).1=0) (h:bE c P ks):bE u P ks:=by
 obtain ⟨hr,hp⟩:=wh h.inc
 have hl:=J.len
 refine ⟨hv,Wf (fun x hx=>by have:=hr x hx;omega) hp,?_⟩
 rw [←h.sel]
 refine Ql fun x hx => ?_
 have hx:=hr x hx
 obtain ⟨i,rfl⟩:∃ i:Nat,x=(i:Int):=⟨x.toNat,by omega⟩
 unfold kI
 rw [zH,zH,J.left (by omega)]
theorem zjb (J:eP c d u) (hu:u.Ok) (hv:(zF u).1=0) (hpar:u.aT=c.aT) (tE:u.aF=c.aF) (lg:u.bh=c.bh) (hoff:u.off=c.off) (h:bE c P ks):cY (cp c ks) (cp u ks) 0 where
 oK:=h.pT J.BG
 Ae:=(XS J hv h).pT hu
 ve:=by rw [h.ok (J.BG.off.lt (by omega))]
 vU:=by rw [(XS J hv h).ok (hu.off.lt (by omega))]
 o8:=hpar
 iT:=tE
 day:=lg
 oL:=hoff
 kU:=fun a ha=>by
  have ha:a∈u.aC:=ha
  rw [J.aC] at ha
  rcases ub.1 ha with g | g
  ·exact J.kc a g
  ·exact J.kd a g
 kE:=J.kc
 aC:=fun i a ha=>by
  show u.aC[i+0]?=some a
  rw [J.aC,Nat.add_zero,uA (uc.1 ha).1]
  exact ha
 cl:=by
  show ks=ks.map (iN 0)
  have:iN 0=id:=funext fun k=>by
   have hs:∀ x,dV 0 x=x:=fun x=>by unfold dV;split<;>omega
   unfold iN
   rw [hs,hs]
   simp
  rw [this,List.map_id]
end
end
section
theorem Vt {α β γ:Type} (g:β→Option γ) (f:α→β):∀ l:List α,aI g (l.map f)=aI (fun x=>g (f x)) l
 | []=>rfl
 | a::l=>by simp only [List.map_cons,aI];rw [Vt g f l]
theorem LX {α β γ:Type} (g:α→Option β) (f:β→γ):∀ l:List α,aI (fun x=>(g x).map f) l=(aI g l).map (List.map f)
 | []=>rfl
 | a::l=>by
  simp only [aI]
  rw [LX g f l]
  cases g a with
  | none=>rfl
  | some b=>cases aI g l<;>rfl
theorem zkP {P:List Int} (hp:P.Pairwise (· < ·)) (n:Nat) (v:Int):qW (P.map (· + (n:Int))) (v+n)=qW P v:=by
 have pz:(P.map (· + (n:Int))).Nodup:=List.Pairwise.map _ (R:=fun a b:Int=>a < b) (fun a b h=>by show a+(n:Int)≠b+n;omega) hp
 cases h:qW P v with
 | some p=>
  obtain ⟨h0,h1⟩:=Qd h
  have:(P.map (· + (n:Int)))[p.toNat]?=some (v+n):=by rw [ue,h1];rfl
  rw [IU pz this]
  congr 1;omega
 | none=>
  unfold qW at h ⊢
  split at h
  ·cases h
  ·rename_i hv
   rw [if_neg]
   intro hm
   obtain ⟨x,hx,e⟩:=uh.1 hm
   have:x=v:=by omega
   subst this
   exact hv hx
section
variable {c d u:aq} {P:List Int} {ks:List aK}
theorem JC (J:eP c d u) (hv:(zF u).1=0) (h:bE d P ks):bE u (P.map (· + (c.zw.length:Int))) (ks.map (iN c.aC.length)):=by
 obtain ⟨hr,hp⟩:=wh h.inc
 have hl:=J.len
 refine ⟨hv,Wf (fun x hx => ?_) ?_,?_⟩
 ·obtain ⟨y,hy,rfl⟩:=uh.1 hx
  have:=hr y hy
  omega
 ·exact List.Pairwise.map _ (R:=fun a b:Int=>a < b) (fun a b h=>by show a+(c.zw.length:Int) < b+c.zw.length;omega) hp
 ·rw [Vt]
  have hs:=h.sel
  have:aI (fun x=>(kI d P x).map (iN c.aC.length)) P=some (ks.map (iN c.aC.length)):=by rw [LX,hs];rfl
  rw [←this]
  refine Ql fun x hx => ?_
  have hx:=hr x hx
  obtain ⟨i,rfl⟩:∃ i:Nat,x=(i:Int):=⟨x.toNat,by omega⟩
  unfold kI
  have hi:i < d.zw.length:=by omega
  rw [show (i:Int)+(c.zw.length:Int)=((i+c.zw.length:Nat):Int) by omega,zH,zH,J.right (by omega),show i+c.zw.length - c.zw.length=i by omega,ua hi]
  simp only [uC,bf]
  have e1:aI (xH (P.map (· + (c.zw.length:Int)))) (gK c.zw.length c.aC.length d.zw[i]).start=aI (xH P) d.zw[i].start:=by
   show aI _ (d.zw[i].start.map _)=_
   rw [Vt]
   refine Ql fun s _ => ?_
   unfold xH
   simp only [zkP hp]
  rw [e1]
  cases aI (xH P) d.zw[i].start<;>rfl
theorem zhE (J:eP c d u) (hu:u.Ok) (hv:(zF u).1=0) (hpar:u.aT=d.aT) (tE:u.aF=d.aF) (lg:u.bh=d.bh) (hoff:u.off=d.off) (h:bE d P ks):cY (cp d ks) (cp u (ks.map (iN c.aC.length))) c.aC.length where
 oK:=h.pT J.o9
 Ae:=(JC J hv h).pT hu
 ve:=by rw [h.ok (J.o9.off.lt (by omega))]
 vU:=by rw [(JC J hv h).ok (hu.off.lt (by omega))]
 o8:=hpar
 iT:=tE
 day:=lg
 oL:=hoff
 kU:=fun a ha=>by
  have ha:a∈u.aC:=ha
  rw [J.aC] at ha
  rcases ub.1 ha with g | g
  ·exact J.kc a g
  ·exact J.kd a g
 kE:=J.kd
 aC:=fun i a ha=>by
  show u.aC[i+c.aC.length]?=some a
  rw [J.aC,ut (by omega),show i+c.aC.length - c.aC.length=i by omega]
  exact ha
 cl:=rfl
end
end
section
section
variable {c d u:aq} {P:List Int} {ks:List aK}
theorem Ww (c:aq) {i:Nat} {k:aK} (hk:c.zw[i]?=some k):(qM c)[i]?=some (Qj k Qk):=by
 have hi:=(uc.1 hk).1
 unfold qM
 exact at_get0 hk (by rw [uF,if_pos hi])
 where
 at_get0 {c:aq} {F:aK→ak→ak} {ms:List ak} {i:Nat} {k:aK} {m:ak} (hk:c.zw[i]?=some k) (h:ms[i]?=some m):(ms.mapIdx (eW c F))[i]?=some (F k m):=by
  rw [uI,h]
  simp [eW,hk]
theorem zhF {e U:aq} {off:Nat} (E:cY e U off) {P Q:List Int} {c u:aq} {kc ku:List aK} (hc:c.Ok) (hu:u.Ok) (hP:bE c P kc) (hQ:bE u Q ku) (he:e=cp c kc) (hU:U=cp u ku) {s t:aH}
  (hs:cx c c.aF (qM c) s.aO) (ht:cx u u.aF (qM u) t.aO) (hvs:VS c s) (HR:VS u t) (hds:s.day=0) (hdt:t.day=0) (Bb:s.aF=c.aF) (hht:t.aF=u.aF) (hut:t.used=uO u.aC.length false)
  (hin:fI Q (qM u)=fI P (qM c)) {r r':List ak} (h1:cx e c.aF (fI P (qM c)) r) (h2:cx U u.aF (fI Q (qM u)) r'):rs Q t=dO U (rs P s):=by
 subst he
 subst hU
 have lc:(qM c).length=c.zw.length:=by simp [qM]
 have lu:(qM u).length=u.zw.length:=by simp [qM]
 have e1:=kY hP.pos lc hs h1
 have e2:=kY hQ.pos lu ht h2
 have hh:u.aF=c.aF:=E.iT
 rw [hin,hh] at h2
 have e3:=E.start (by rw [Zk];exact hP.pos.len.symm) h1 h2
 refine ZI (hdt.trans hds.symm) (by show t.aF=s.aF;rw [hht,Bb,hh]) hut ?_
 show fI Q t.aO=fI P s.aO
 rw [←e1,←e2,e3]
end
end
section
def j6 (c d:aq):aq:={c with aC:=c.aC++d.aC,zw:=c.zw++d.zw.map (gK c.zw.length c.aC.length)}
section
variable {l m:List aV} {k:aK} {a:Int} {n:Nat}
theorem EW (h:a < (l.length:Int)):xV (l++m) a=xV l a:=by
 unfold xV
 have:ze (l++m) a=ze l a:=by
  by_cases h0:0≤a
  ·obtain ⟨i,rfl⟩:∃ i:Nat,a=(i:Int):=⟨a.toNat,by omega⟩
   rw [zH,zH,uA (by omega)]
  ·rw [ZC (by omega),ZC (by omega)]
 rw [this]
theorem EX (h:0≤a):xV (l++m) (a+l.length)=xV m a:=by
 unfold xV
 obtain ⟨i,rfl⟩:∃ i:Nat,a=(i:Int):=⟨a.toNat,by omega⟩
 rw [show (i:Int)+(l.length:Int)=((i+l.length:Nat):Int) by omega,zH,zH,ut (by omega),Nat.add_sub_cancel]
theorem zjc (h:wn l k=true):wn (l++m) k=true:=by
 unfold wn at h ⊢
 simp only [Ug,uj] at h ⊢
 rcases h with h | ⟨h1,h2,h3⟩
 ·exact .inl h
 ·exact .inr ⟨h1,by rw [EW (jB h2).2];exact h2,by rw [EW (jB h3).2];exact h3⟩
theorem zjd (n:Nat) (h:wn m k=true):wn (l++m) (gK n l.length k)=true:=by
 unfold wn at h ⊢
 simp only [Ug,uj,beq_iff_eq,ug,beq_eq_false_iff_ne] at h ⊢
 rcases h with ⟨h1,h2⟩ | ⟨h1,h2,h3⟩
 ·refine .inl ⟨?_,?_⟩
  ·show dV _ k.aL = -1;unfold dV;rw [h1];rfl
  ·show dV _ k.cX = -1;unfold dV;rw [h2];rfl
 ·have q1:=jB h2
  have q2:=jB h3
  have e1:(gK n l.length k).aL=k.aL+l.length:=by show dV _ k.aL=_;unfold dV;rw [if_neg (by omega)]
  have e2:(gK n l.length k).cX=k.cX+l.length:=by show dV _ k.cX=_;unfold dV;rw [if_neg (by omega)]
  rw [e1,e2]
  exact .inr ⟨by omega,by rw [EX q1.1];exact h2,by rw [EX q2.1];exact h3⟩
theorem zkQ {nh:Nat} (h:k.act < (l.length:Int)):vY nh (l++m) k=vY nh l k:=by unfold vY;rw [EW h]
theorem zkR {nh:Nat} (h:0≤k.act):vY nh (l++m) (gK n l.length k)=vY nh m k:=by
 unfold vY
 rw [show (gK n l.length k).act=k.act+l.length from rfl,EX h]
 rfl
theorem zhG {nh:Nat} {us:List bQ} {n':Nat} {i:Int} (h:jf nh us l n i k=true) (hn:n≤n'):jf nh us (l++m) n' i k=true:=by
 simp only [jf,uj] at h ⊢
 obtain ⟨⟨a1,a2,a3⟩,⟨b1,b2⟩,c1,d1,e1⟩:=h
 simp only [ug,decide_eq_false_iff_not] at a1 a2
 refine ⟨⟨by simp only [ug,decide_eq_false_iff_not];exact a1,?_,a3⟩,⟨?_,b2⟩,?_,zjc d1,e1⟩
 ·simp only [ug,decide_eq_false_iff_not,um]
  omega
 ·rw [zkQ (by omega)];exact b1
 ·refine uG.2 fun s hs => ?_
  have:=uG.1 c1 s hs
  simp only [Qc,uj,ug,decide_eq_false_iff_not] at this ⊢
  exact ⟨this.1,by omega,this.2.2⟩
theorem zhH {nh:Nat} {us:List bQ} {n':Nat} {i:Int} (h:jf nh us m n i k=true):jf nh us (l++m) (n'+n) (n'+i) (gK n' l.length k)=true:=by
 simp only [jf,uj] at h ⊢
 obtain ⟨⟨a1,a2,a3⟩,⟨b1,b2⟩,c1,d1,e1⟩:=h
 simp only [ug,decide_eq_false_iff_not] at a1 a2
 have ea:(gK n' l.length k).act=k.act+l.length:=rfl
 refine ⟨⟨?_,?_,a3⟩,⟨?_,?_⟩,?_,zjd _ d1,e1⟩
 ·simp only [ug,decide_eq_false_iff_not];omega
 ·simp only [ug,decide_eq_false_iff_not,um]
  omega
 ·rw [zkR (by omega)];exact b1
 ·show (!decide (8 < ((k.start.map _).length:Int)))=true
  rw [ul];exact b2
 ·refine uG.2 fun s hs => ?_
  obtain ⟨x,hx,rfl⟩:=uh.1 hs
  have:=uG.1 c1 x hx
  simp only [Qc,uj,ug,decide_eq_false_iff_not,beq_eq_false_iff_ne] at this ⊢
  exact ⟨by omega,by omega,by omega,this.2.2.2⟩
end
section
variable {c d:aq}
structure ia (c d:aq):Prop where
 vc:(zF c).1=0
 vd:(zF d).1=0
 o8:d.aT=c.aT
 iT:d.aF=c.aF
 LY:d.bB=c.bB
 day:d.bh=c.bh
 oL:d.off=c.off
 na:c.aC.length+d.aC.length≤60
 nc:c.zw.length+d.zw.length≤400
theorem YK (M:ia c d):zF (j6 c d)=(0,-1):=by
 obtain ⟨v1,v2,v3,_⟩:=xr M.vc
 obtain ⟨w1,w2,w3,_⟩:=xr M.vd
 have h1:=M.na
 have h2:=M.nc
 refine IR ?_ ?_ ?_
 ·simp only [vZ,Bool.or_eq_false_iff,decide_eq_false_iff_not] at v1 ⊢
  refine ⟨v1.1,v1.2.1,v1.2.2.1,v1.2.2.2.1,?_,?_⟩
  ·show ¬ (60:Int) < ((c.aC++d.aC).length:Int)
   rw [um];omega
  ·show ¬ (400:Int) < ((c.zw++d.zw.map _).length:Int)
   rw [um,ul];omega
 ·simp only [je,uj] at v2 w2 ⊢
  obtain ⟨x1,x2,x3,x4,x5,x6,x7⟩:=v2
  obtain ⟨y1,y2,y3,y4,y5,y6,y7⟩:=w2
  refine ⟨x1,x2,x3,x4,x5,?_,x7⟩
  rw [M.iT,M.LY,M.o8] at y6
  show (c.aC++d.aC).all _=true
  rw [uK,uj]
  exact ⟨x6,y6⟩
 ·intro j hj
  have hj:j < (c.zw++d.zw.map (gK c.zw.length c.aC.length)).length:=hj
  rw [um,ul] at hj
  show (match (c.zw++d.zw.map (gK c.zw.length c.aC.length))[j]? with
   | some k=>jf c.aF.length c.bB (c.aC++d.aC) (c.zw++d.zw.map (gK c.zw.length c.aC.length)).length j k
   | none=>true)=true
  rw [um,ul]
  rcases uq j c.zw.length with g | g
  ·rw [uA g,ua g]
   have:=v3 j g
   simp only [mo,ua g] at this
   exact zhG this (by omega)
  ·have g':j - c.zw.length < d.zw.length:=by omega
   rw [ut g,ue,ua g']
   have:=w3 _ g'
   simp only [mo,ua g'] at this
   rw [M.iT,M.LY] at this
   have:=zhH (l:=c.aC) (n':=c.zw.length) this
   rw [show (c.zw.length:Int)+((j - c.zw.length:Nat):Int)=(j:Int) by omega] at this
   exact this
theorem YL (hc:c.Ok) (hd:d.Ok) (M:ia c d) (kc:∀ a∈c.aC,a.kind=1) (kd:∀ a∈d.aC,a.kind=1):eP c d (j6 c d):=⟨hc,hd,M.vc,M.vd,rfl,rfl,kc,kd⟩
theorem zfn {ρ σ:Nat→Nat} (R:cq c ρ) (S:cq c σ):∀ i,i < c.zw.length→ρ i=σ i:=
 zmX R.fn S.fn (R.least (fun i j=>σ i=σ j) ⟨⟨fun _=>rfl,fun _ _ h=>h.symm,fun _ _ _ h g=>h.trans g⟩,S.start,S.gZ,S.whole⟩)
  (S.least (fun i j=>ρ i=ρ j) ⟨⟨fun _=>rfl,fun _ _ h=>h.symm,fun _ _ _ h g=>h.trans g⟩,R.start,R.gZ,R.whole⟩)
theorem zds {ρ σ:Nat→Nat} {n:Nat} (h:∀ i,i < n→ρ i=σ i):zD ρ n=zD σ n:=by
 have e1:qL ρ n=qL σ n:=uE fun x hx=>by rw [h x (ui.1 hx)]
 unfold zD
 rw [e1]
 refine uw fun r _ => ?_
 unfold jG
 rw [uE fun x hx=>by rw [h x (ui.1 hx)]]
end
end
section
structure iO (c:aq) (s:aH):Prop where
 vs:VS c s
 day:s.day=0
 iT:s.aF=c.aF
 used:s.used=uO c.aC.length false
 st:cx c c.aF (qM c) s.aO
theorem Qm {c:aq} (hc:c.Ok) (hv:(zF c).1=0):∃ s,jO c=some (s,0)∧iO c s:=by
 obtain ⟨⟨s,e⟩,h1,h2,h3,h4,h5,h6,h7⟩:=zfj hc hv
 simp only at h2 h3 h4 h5 h6 h7
 subst h2
 exact ⟨s,h1,h3,h4,h5,h6,h7⟩
theorem Qn (c:aq):(qM c).length=c.zw.length:=by simp [qM]
theorem XU {c:aq} {P:List Int} {ks:List aK} (h:bE c P ks):qM (cp c ks)=fI P (qM c):=by
 have hp:=h.pos
 refine uu fun p => ?_
 rcases uq p P.length with hl | hl
 ·obtain ⟨i,k,st,h1,h2,h3,h4⟩:=hp.at_ p hl
  have hi:=(uc.1 h2).1
  rw [wC h1 (by rw [Qn];exact hi),Ww c h2,Ww (cp c ks) h4]
  rfl
 ·rw [ud (by rw [Qn];show ks.length≤p;rw [hp.len];exact hl),ud (by rw [Zk];exact hl)]
section
variable {e U:aq} {off:Nat}
theorem cY.init (E:cY e U off):qM U=qM e:=by
 refine uu fun i => ?_
 rcases uq i e.zw.length with h | h
 ·have hk:=ua h
  rw [Ww e hk,Ww U (E.get hk)]
  rfl
 ·rw [ud (by rw [Qn,E.len];exact h),ud (by rw [Qn];exact h)]
theorem YM {c:aq} {P:List Int} {ks:List aK} (hc:c.Ok) (h:bE c P ks):∃ r,cx (cp c ks) c.aF (fI P (qM c)) r:=by
 obtain ⟨s,_,B⟩:=Qm (h.pT hc) (by rw [h.ok (hc.off.lt (by omega))])
 refine ⟨s.aO,?_⟩
 rw [←XU h]
 exact B.st
theorem LZ {P Q:List Int} {c u:aq} {kc ku:List aK} (hc:c.Ok) (hu:u.Ok) (hP:bE c P kc) (hQ:bE u Q ku) (E:cY (cp c kc) (cp u ku) off) {s t:aH} (B:iO c s) (D:iO u t):rs Q t=dO (cp u ku) (rs P s):=by
 obtain ⟨r,h1⟩:=YM hc hP
 obtain ⟨r',h2⟩:=YM hu hQ
 exact zhF E hc hu hP hQ rfl rfl B.st D.st B.vs D.vs B.day D.day B.iT D.iT D.used (by rw [←XU hP,←XU hQ,E.init]) h1 h2
end
end
section
structure Alike (c u:aq) (aj:Int) (s w:aH) (P Q:List Int):Prop where
 has:xX u aj w Q↔xX c aj s P
 safe:JA u aj (dB w) Q=JA c aj (dB s) P
 L4:BE (wa c P).1 aj (rs P s) (gD c aj s P)→BE (wa u Q).1 aj (rs Q w) (gD u aj w Q)→(gD u aj w Q).wait=(gD c aj s P).wait∧((gD u aj w Q).move == -2)=((gD c aj s P).move == -2)
section
variable {c d u:aq} {aj:Int} {s t w:aH} {P Q:List Int} {kc ku:List aK} {off:Nat}
theorem L5 (hc:c.Ok) (hu:u.Ok) (hP:bE c P kc) (hQ:bE u Q ku) (E:cY (cp c kc) (cp u ku) off) (hv:VS c s) (h0:0≤aj) (h1:aj < c.aT) (hst:rs Q w=dO (cp u ku) (rs P s)):Alike c u aj s w P Q:=by
 have BH:=Wr hc hP hv
 refine ⟨?_,?_,?_⟩
 ·unfold xX
  rw [hP.eq,hQ.eq,hst]
  exact E.BD (p:=dB (rs P s)) BH h0 h1
 ·rw [Vr hQ,Vr hP]
  show bn (cp u ku) aj (dB (rs Q w))=bn (cp c kc) aj (dB (rs P s))
  rw [hst]
  exact E.bn BH
 ·rw [hP.eq,hQ.eq,hst]
  have hs:bn (cp u ku) aj (dB (dO (cp u ku) (rs P s)))=bn (cp c kc) aj (dB (rs P s)):=E.bn BH
  intro a b
  rcases a with ⟨a1,a2⟩ | ⟨a1,a2,a3,a4⟩<;>rcases b with ⟨b1,b2⟩ | ⟨b1,b2,b3,b4⟩
  ·rw [a2,b2];exact ⟨rfl,rfl⟩
  ·have b1:=hs.symm.trans b1
   cases a1.symm.trans b1
  ·have b1:=hs.symm.trans b1
   cases a1.symm.trans b1
  ·refine ⟨zhC ((E.wait BH).1 b4) a4,?_⟩
   rw [a3,b3]
   have hx:xf (cp u ku) aj (tD (dO (cp u ku) (rs P s)))↔xf (cp c kc) aj (tD (rs P s)):=E.safe (p:=tD (rs P s)) BH
   rcases XR a1 with ⟨k1,k2⟩ | ⟨k1,_,k2⟩<;>rcases XR b1 with ⟨j1,j2⟩ | ⟨j1,_,j2⟩
   ·rw [j2,k2]
   ·exact absurd (hx.2 k1) j1
   ·exact absurd (hx.1 j1) k1
   ·rw [beq_eq_false_iff_ne.2 j2,beq_eq_false_iff_ne.2 k2]
theorem zdt {l:List Int} {a b:Int} (ha:eo l a) (hb:eo l b):a=b:=by
 rcases ha with ⟨a1,a2⟩ | ⟨a0,a1,a2⟩<;>rcases hb with ⟨b1,b2⟩ | ⟨b0,b1,b2⟩
 ·omega
 ·have:=a2 b b1;omega
 ·have:=b2 a a1;omega
 ·have:=a2 b b1 b0;have:=b2 a a1 a0;omega
theorem zfo {l m:List Int} {a b:Int} (ha:eo l a) (hb:eo m b):eo (l++m) (bif decide (a < 0)||(decide (0≤b)&&decide (b < a)) then b else a):=by
 rcases ha with ⟨a1,a2⟩ | ⟨a0,a1,a2⟩
 ·rw [decide_eq_true (show a < 0 by omega)]
  rcases hb with ⟨b1,b2⟩ | ⟨b0,b1,b2⟩
  ·refine .inl ⟨b1,fun x hx => ?_⟩
   rcases ub.1 hx with g | g
   ·exact a2 x g
   ·exact b2 x g
  ·refine .inr ⟨b0,ub.2 (.inr b1),fun x hx h0 => ?_⟩
   rcases ub.1 hx with g | g
   ·have:=a2 x g;omega
   ·exact b2 x g h0
 ·rw [decide_eq_false (show ¬ a < 0 by omega)]
  rcases hb with ⟨b1,b2⟩ | ⟨b0,b1,b2⟩
  ·rw [decide_eq_false (show ¬ 0≤b by omega)]
   refine .inr ⟨a0,ub.2 (.inl a1),fun x hx h0 => ?_⟩
   rcases ub.1 hx with g | g
   ·exact a2 x g h0
   ·have:=b2 x g;omega
  ·rw [decide_eq_true b0]
   by_cases hlt:b < a
   ·rw [decide_eq_true hlt]
    refine .inr ⟨b0,ub.2 (.inr b1),fun x hx h0 => ?_⟩
    rcases ub.1 hx with g | g
    ·have:=a2 x g h0;show b≤x;omega
    ·exact b2 x g h0
   ·rw [decide_eq_false hlt]
    refine .inr ⟨a0,ub.2 (.inl a1),fun x hx h0 => ?_⟩
    rcases ub.1 hx with g | g
    ·exact a2 x g h0
    ·have:=b2 x g h0;show a≤x;omega
theorem JD {α:Type} {p q:α→Bool} {l:List α} (h:∀ x∈l,p x=q x):l.all p=l.all q:=by
 rw [uR,uG,uG]
 exact ⟨fun g x hx=>by rw [←h x hx];exact g x hx,fun g x hx=>by rw [h x hx];exact g x hx⟩
theorem zkS {Lc Ld:List (List Int)} {f:List Int→List Int} {vc vd vu:Bool×Int×Int×Bool} (Ic:gF c aj s Lc vc) (Id:gF d aj t Ld vd) (Iu:gF u aj w (Lc++Ld.map f) vu)
  (A:∀ P∈Lc,Alike c u aj s w P P) (B:∀ P∈Ld,Alike d u aj t w P (f P)) :
  vu.1=(vc.1&&vd.1)∧vu.2.2.1=(bif decide (vc.2.2.1 < 0)||(decide (0≤vd.2.2.1)&&decide (vd.2.2.1 < vc.2.2.1)) then vd.2.2.1 else vc.2.2.1)∧vu.2.2.2=(vc.2.2.2&&vd.2.2.2):=by
 have a:=fun P (h:P∈Lc)=>(A P h).L4 (Ic.ok P h) (Iu.ok P (ub.2 (.inl h)))
 have b:=fun P (h:P∈Ld)=>(B P h).L4 (Id.ok P h) (Iu.ok (f P) (ub.2 (.inr (uh.2 ⟨P,h,rfl⟩))))
 refine ⟨?_,?_,?_⟩
 ·rw [Iu.safe,Ic.safe,Id.safe,uK,Ui]
  congr 1
  ·exact JD fun P h=>(A P h).safe
  ·exact JD fun P h=>(B P h).safe
 ·refine zdt Iu.wait ?_
  rw [uL,uX]
  rw [show Lc.map (fun P=>(gD u aj w P).wait)=Lc.map (fun P=>(gD c aj s P).wait) from uw fun P h=>(a P h).1]
  rw [show Ld.map ((fun P=>(gD u aj w P).wait)∘f)=Ld.map (fun P=>(gD d aj t P).wait) from uw fun P h=>(b P h).1]
  exact zfo Ic.wait Id.wait
 ·rw [Iu.pass,Ic.pass,Id.pass,uK,Ui]
  congr 1
  ·exact JD fun P h=>(a P h).2
  ·exact JD fun P h=>(b P h).2
theorem Vu {L:List (List Int)} {v:Bool×Int×Int×Bool} (I:gF c aj s L v):((bif v.2.2.2 then -2 else v.2.1) == (-2:Int))=v.2.2.2:=by
 cases h:v.2.2.2 with
 | true=>rfl
 | false=>
  rw [cy,beq_eq_false_iff_ne]
  have hp:=I.pass
  rw [h] at hp
  obtain ⟨P,hP,hm⟩:=Ua.1 hp.symm
  have hm:(gD c aj s P).move ≠ -2:=fun e=>hm (beq_iff_eq.2 e)
  rcases I.ok P hP with ⟨_,g⟩ | ⟨g,_,g2,_⟩
  ·exact absurd (by rw [g]) hm
  ·rcases XR g with ⟨_,k⟩ | ⟨_,k,_⟩
   ·exact absurd (g2.trans k) hm
   ·rcases k with ⟨k,_⟩ | ⟨_,k,_⟩
    ·exact absurd (g2.trans k) hm
    ·rcases I.move with ⟨_,no⟩ | ⟨ne,_⟩
     ·exact absurd ⟨P,hP,k⟩ (no _)
     ·exact ne
end
section
variable {c d:aq} {aj:Int} {s t w:aH} {ρ σ:Nat→Nat}
theorem zhI (hc:c.Ok) (hd:d.Ok) (hu:(j6 c d).Ok) (M:ia c d) (kc:∀ a∈c.aC,a.kind=1) (kd:∀ a∈d.aC,a.kind=1) (R:cq c ρ) (S:cq d σ) (Bc:iO c s) (Bd:iO d t) (Bu:iO (j6 c d) w) (h0:0≤aj) (h1:aj < c.aT) :
  (∀ P∈zD ρ c.zw.length,Alike c (j6 c d) aj s w P P)∧∀ P∈zD σ d.zw.length,Alike d (j6 c d) aj t w P (P.map (· + (c.zw.length:Int))):=by
 have J:=YL hc hd M kc kd
 have hv:(zF (j6 c d)).1=0:=by rw [YK M]
 constructor
 ·intro P hP
  obtain ⟨i,hi,rfl⟩:=uv hP
  obtain ⟨r,_,_,ep⟩:=Vs (c:=c) (ρ:=ρ) hi
  obtain ⟨ks,hks⟩:=ES hc M.vc R r
  rw [ep]
  have hQ:=XS J hv hks
  have E:=zjb J hu hv rfl rfl rfl rfl hks
  exact L5 hc hu hks hQ E Bc.vs h0 h1 (LZ hc hu hks hQ E Bc Bu)
 ·intro P hP
  obtain ⟨i,hi,rfl⟩:=uv hP
  obtain ⟨r,_,_,ep⟩:=Vs (c:=d) (ρ:=σ) hi
  obtain ⟨ks,hks⟩:=ES hd M.vd S r
  rw [ep]
  have hQ:=JC J hv hks
  have E:=zhE J hu hv M.o8.symm M.iT.symm M.day.symm M.oL.symm hks
  exact L5 hd hu hks hQ E Bd.vs h0 (by rw [M.o8];exact h1) (LZ hd hu hks hQ E Bd Bu)
theorem zhJ {c:aq} {ρ:Nat→Nat} (hc:c.Ok) (hv:(zF c).1=0) (R:cq c ρ):zV c=some (zD ρ c.zw.length):=by
 obtain ⟨σ,S,h⟩:=Kq hc hv
 rw [h,zds (zfn S R)]
theorem zje (hc:c.Ok) (hd:d.Ok) (hu:(j6 c d).Ok) (M:ia c d) (kc:∀ a∈c.aC,a.kind=1) (kd:∀ a∈d.aC,a.kind=1) (R:cq c ρ) (S:cq d σ) :
  cq (j6 c d) (mq c.zw.length ρ σ)∧zD (mq c.zw.length ρ σ) (j6 c d).zw.length=zD ρ c.zw.length++(zD σ d.zw.length).map fun P=>P.map (· + (c.zw.length:Int)):=by
 have J:=YL hc hd M kc kd
 refine ⟨zdq J R S,?_⟩
 rw [J.len]
 exact zdr R.fn.le
end
end
end Go.Proofs.YtlpmnmbebkdocaaGreatDoor
