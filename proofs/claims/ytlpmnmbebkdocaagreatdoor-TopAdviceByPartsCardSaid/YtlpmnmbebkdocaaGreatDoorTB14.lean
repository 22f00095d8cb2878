/-
  What an arena holds: closed under moves, and all that can be reached.
  region.Ranks: what it returns for an arena is the number of moves in which a breach can be forced.
  region.Ranks: the queue.
  region.Ranks: all of it.
  A clause that has ended stays as it is; a breach stays a breach.
  RegionBreach: a breach is never left.
  What can be forced from a position, told without an arena.
  region.Safe and strategy's functions, told by positions.
  Games of parts of a contract: a position is safe exactly if all parts are safe in it.
  'compose.Restrict', 'Lost' and 'Safe': what they return.
  strategy.Advise: what it returns.
  StrategyKeeps: the advice keeps the party safe.
  'compose.Advise': the advice by parts is that for the whole contract.
  Traces; what one step does when a party follows the advice.
  strategy.Follow: what it returns.
-/
import Derived.Test.YtlpmnmbebkdocaaGreatDoorTB13
import Derived.Test.YtlpmnmbebkdocaaGreatDoorTB07
open List renaming getElem?_eq_getElem → ua, getElem?_eq_some_iff → ub, getElem_mem → uc, mem_map → ud, take_succ_eq_append_getElem → ue, getElem_of_mem → ug, getElem?_eq_none → uj, range → uk, mem_singleton → ul, getElem?_set_self → um, mem_range → un, mem_filter → uo, getElem?_map → uq, length_map → ur, mem_append → ut, length_filter_le → uu, length_append → uv, nil_append → ux, count_cons_of_ne → uy, length_range → uz, mem_of_getElem? → uA, getElem?_set_ne → uB, length_cons → uC, take_length → uD, filter_append → uF, count_append → uI, pairwise_of_forall_mem_list → uJ, ext_getElem? → uK, find?_eq_some_iff_getElem → uL, take_append_of_le_length → uN, append_nil → uO, range_succ → uP, filter_sublist → uQ, length_pos_of_mem → uS, map_append → uT, length_nil → uU, mem_cons_of_mem → uW, mem_cons → uY, mem_cons_self → uZ, find?_eq_none → u0, nodup_range → u4, length_take → u5, all_eq_true → u6, nodup_cons → u7, all_append → u9, take_take → Ua, take_zero → Ub, set_set → Ud
open Option renaming bind → uG, map_some → uV
open Bool renaming not_eq_true' → uh, and_eq_true → ui, not_eq_true → uE
open Nat renaming le_refl → uM, sub_self → Uc, lt_or_ge → Ue
open Int renaming toNat_natCast → uH, toNat_of_nonneg → uR, le_refl → uX
open Sum renaming elim_inl → uw
namespace Go.Proofs.YtlpmnmbebkdocaaGreatDoor
open Go.RowKit
set_option linter.unusedSimpArgs false
set_option linter.unusedVariables false
set_option maxRecDepth 100000
theorem ZW {α:Type} [BEq α] [LawfulBEq α]:∀ {L1 L2:List α},L1.Nodup→(∀ x∈L1,x∈L2)→L1.length≤L2.length
 | [],L2,_,_=>by simp
 | a::l,L2,h,hs=>by
  obtain ⟨ha,hl⟩:=u7.1 h
  have hm:=hs a uZ
  have ih:=ZW (L1:=l) (L2:=L2.erase a) hl fun x hx=>(List.mem_erase_of_ne (by rintro rfl;exact ha hx)).2 (hs x (uW _ hx))
  rw [List.length_erase_of_mem hm] at ih
  have:0 < L2.length:=uS hm
  simp only [uC];omega
theorem eJ.closed {c:ax} {zw:Int} {p:aH} {L:List aH} {M:List (List bh)} (F:eJ c zw p L M) {q:aH} (hq:q∈L) {m:Int} (hm:m∈zq c zw q):target c q m∈L:=by
 obtain ⟨j,hj,e⟩:=ug hq
 have hjM:j < M.length:=by rw [F.len];exact hj
 have h:=F.mv j M[j] q (ua hjM) (by rw [ua hj,e])
 rw [←h.1] at hm
 obtain ⟨t,ht,rfl⟩:=ud.1 hm
 exact uA (h.2 t ht).2
theorem eJ.rO {c:ax} {zw:Int} {p:aH} {L:List aH} {M:List (List bh)} (F:eJ c zw p L M) {q x:aH} (hq:q∈L) (h:mX c zw q x):x∈L:=by
 induction h with
 | base=>exact hq
 | step _ hm ih=>exact F.closed ih hm
section
def at_ (l:List Int) (i:Nat):Int:=l[i]?.getD 0
theorem yj {l:List Int} {i:Nat} (h:i < l.length):l[i]?=some (at_ l i):=by unfold at_;rw [ua h];rfl
theorem ZX {l:List Int} {i:Nat} (h:i < l.length) (x:Int):at_ (l.set i x)=upd (at_ l) i x:=by
 funext j
 unfold at_ upd
 by_cases e:j=i
 ·subst e;rw [if_pos rfl,um h];rfl
 ·rw [if_neg e,uB (Ne.symm e)]
def cst (l:List Nat):List Int:=l.map fun x:Nat=>(x:Int)
theorem Zu (l:List Nat):(cst l).length=l.length:=ur _
theorem WI (l m:List Nat):cst (l++m)=cst l++cst m:=uT
def KB (c:ax) (zw:Int) (aI:List aj) (i:Nat):Bool:=match c.ay[i]?,aI[i]? with
 | some k,some m=>k.final&&((m.aR == 4)&&(m.bz == zw))
 | _,_=>false
def qF (c:ax) (s:aG) (zw:Int):Bool := !((uk s.aI.length).all fun i=>!KB c zw s.aI i)
theorem L9 (c:ax) (s:aG) (zw:Int) (hl:s.aI.length=c.ay.length) (hs:s.aI.length < 4611686018427387904) :
  (aD (σ:=Unit) (ρ:=Unit) (s.aI.length:Int) (fun i1 s1=>(uG (ze s.aI (i1:Int)) fun e1=>(uG (uG (ze c.ay (i1:Int)) fun e2=>(bif e2.final then (bif (e1.aR == 4) then some (e1.bz == zw) else some false) else some false)) fun v1=>(bif v1 then some (.inr ()) else some (.inl ()))))) ()) =
   some (bif qF c s zw then .inr () else .inl ()):=by
 rw [Qq (fun i=>!KB c zw s.aI i) hs (fun j hj=>by
  have hk:j < c.ay.length:=by omega
  simp only [zN,ua hj,ua hk,aV,KB]
  cases (c.ay[j].final)<;>cases (s.aI[j].aR == 4)<;>cases (s.aI[j].bz == zw)<;>rfl)]
 unfold qF
 cases ((uk s.aI.length).all fun i=>!KB c zw s.aI i)<;>rfl
theorem zna {c:ax} (hc:c.Ok) {s:aG} (hv:VS c s) (zw:Int):XH c s zw=some (qF c s zw):=by
 have:=(hv.s9 hc).2.2
 unfold XH
 rw [L9 c s zw hv.lm (by omega)]
 cases qF c s zw<;>rfl
theorem zjm {c:ax} (hc:c.Ok) {s:aG} (hv:VS c s) {zw:Int} (h0:0≤zw) (h1:zw < c.aW):ZM c s zw=some (qF c s zw):=by
 have:=(hv.s9 hc).2.2
 unfold ZM
 rw [decide_eq_false (show ¬ zw < 0 by omega),decide_eq_false (show ¬ c.aW≤zw by omega),vp c s hc,ZS hv]
 simp only [b9,aV,Bool.not_true]
 rw [L9 c s zw hv.lm (by omega)]
 cases qF c s zw<;>rfl
def gm (c:ax) (a:bT):Gm where
 n:=a.aU.length
 own i:=match a.aU[i]? with | some q=>q.own | none=>false
 lost i:=match a.aU[i]? with | some q=>qF c q.state a.zw | none=>false
 succ i:=match a.bp[i]? with | some T=>T.map fun m=>m.to.toNat | none=>[]
structure bD (c:ax) (zw:Int) (p:aH) (a:bT):Prop where
 p0:0≤zw
 p1:zw < c.aW
 pa:a.zw=zw
 F:eJ c zw p a.aU a.bp
section
variable {c:ax} {zw:Int} {p:aH} {a:bT}
theorem bD.mv (A:bD c zw p a) {i:Nat} (hi:i < a.aU.length):∃ T,a.bp[i]?=some T∧l6 c zw a.aU a.aU[i] (zq c zw a.aU[i]) T:=by
 have h:i < a.bp.length:=by rw [A.F.len];exact hi
 exact ⟨a.bp[i],ua h,A.F.mv i _ _ (ua h) (ua hi)⟩
theorem bD.succ (A:bD c zw p a) {i:Nat} (hi:i < a.aU.length) {T:List bh} (hT:a.bp[i]?=some T):(gm c a).succ i=T.map fun m=>m.to.toNat:=by
 simp only [gm,hT]
theorem bD.to (A:bD c zw p a) {i:Nat} (hi:i < a.aU.length) {T:List bh} (hT:a.bp[i]?=some T) {m:bh} (hm:m∈T):0≤m.to∧m.to < a.aU.length:=by
 obtain ⟨T',h1,_,h3⟩:=A.mv hi
 rw [hT] at h1;cases h1
 obtain ⟨h4,h5⟩:=h3 m hm
 have:=(ub.1 h5).1
 omega
theorem bD.len (hc:c.Ok) (A:bD c zw p a) {i:Nat} (hi:i < a.aU.length) {T:List bh} (hT:a.bp[i]?=some T):T.length≤62:=by
 obtain ⟨T',h1,h2,_⟩:=A.mv hi
 rw [hT] at h1;cases h1
 have:=LZ hc (zw:=zw) (A.F.inv.vs _ (uc hi))
 rw [←ur (f:=fun x:bh=>x.step),h2];exact this
theorem bD.closed (A:bD c zw p a):∀ i,i < (gm c a).n→∀ t∈(gm c a).succ i,t < (gm c a).n:=fun i hi t ht=>by
 obtain ⟨T,h1,_⟩:=A.mv hi
 rw [A.succ hi h1] at ht
 obtain ⟨m,hm,rfl⟩:=ud.1 ht
 have:=A.to hi h1 hm
 show m.to.toNat < a.aU.length
 omega
theorem bD.ER (hc:c.Ok) (A:bD c zw p a) (i:Nat) (hi:i < (gm c a).n):((gm c a).succ i).length≤62:=by
 obtain ⟨T,h1,_⟩:=A.mv hi
 rw [A.succ hi h1,ur];exact A.len hc hi h1
theorem zcU (hc:c.Ok) (A:bD c zw p a):wg c a=some true:=by
 have h0:=A.p0
 have h1:=A.p1
 have hlen:=A.F.inv.len
 refine aq.eq ?_
 unfold wg
 rw [A.pa]
 refine aq.az (v:=false) (by rw [decide_eq_false (show ¬ zw < 0 by omega),decide_eq_false (show ¬ c.aW≤zw by omega),A.F.len];simp) ?_
 refine aq.ite (fun h=>by cases h) (fun _ => ?_)
 refine aq.bind (P:=fun o:Unit ⊕ Unit=>o=.inl ()) (aq.dP (fun _ _=>True) (by omega) trivial (fun i s hi _ => ?_) (fun _ _=>rfl)) ?_
 ·obtain ⟨T,hT,hM⟩:=A.mv hi
  have BB:=A.len hc hi hT
  refine aq.az (zy (ua hi)) ?_
  refine aq.az (zy hT) ?_
  refine aq.bind (P:=fun o:Unit ⊕ Unit=>o=.inl ()) (aq.dP (fun _ _=>True) (by omega) trivial (fun k s hk _ => ?_) (fun _ _=>rfl)) ?_
  ·have:=A.to hi hT (uc hk)
   refine aq.az (zy (ua hk)) ?_
   refine aq.az (v:=false) (by rw [decide_eq_false (show ¬ T[k].to < 0 by omega),decide_eq_false (show ¬ (a.aU.length:Int)≤T[k].to by omega)];rfl) ?_
   exact aq.some trivial
  ·rintro _ rfl
   refine aq.az (by rw [vp c _ hc,ZS (A.F.inv.vs _ (uc hi))]) ?_
   exact aq.some trivial
 ·rintro _ rfl
  exact aq.some rfl
structure L1 (G:Gm) (i k:Nat) (ef:List (List Int)):Prop where
 len:ef.length=G.n
 row:∀ t,t < G.n→∃ l:List Nat,ef[t]?=some (cst l)∧l.length≤62*i+k∧∀ x,l.count x=if x < i then (G.succ x).count t else if x=i then ((G.succ i).take k).count t else 0
theorem L1.next {G:Gm} {i k:Nat} {ef:List (List Int)} (h:L1 G i k ef) (hk:k=(G.succ i).length) (hl:k≤62):L1 G (i+1) 0 ef:=by
 refine ⟨h.len,fun t ht => ?_⟩
 obtain ⟨l,h1,h2,h3⟩:=h.row t ht
 refine ⟨l,h1,by omega,fun x => ?_⟩
 rw [h3 x]
 by_cases e:x < i
 ·rw [if_pos e,if_pos (by omega)]
 ·rw [if_neg e]
  by_cases e2:x=i
  ·subst e2;rw [if_pos rfl,if_pos (by omega),hk,uD]
  ·rw [if_neg e2,if_neg (by omega)]
   split<;>simp
theorem L1.step {G:Gm} {i k:Nat} {ef:List (List Int)} (h:L1 G i k ef) (hn:G.n≤1500) (hi:i < G.n) (hk:k≤62) {to:Nat} (ht:(G.succ i)[k]?=some to) (hto:to < G.n):aq (vD ef G.n (to:Int) (i:Int)) (L1 G i (k+1)):=by
 obtain ⟨l,h1,h2,h3⟩:=h.row to hto
 have e:vD ef G.n (to:Int) (i:Int)=some (ef.set to (cst (l++[i]))):=by
  unfold vD
  rw [if_pos ⟨by omega,by omega,by omega⟩,uH,h1]
  simp only
  rw [if_pos (by rw [Zu];omega),WI];rfl
 refine ⟨_,e,by rw [List.length_set];exact h.len,fun t BC => ?_⟩
 have htk:(G.succ i).take (k+1)=(G.succ i).take k++[to]:=by
  obtain ⟨h5,h6⟩:=ub.1 ht
  rw [ue h5,h6]
 by_cases e2:t=to
 ·subst e2
  refine ⟨l++[i],um (by rw [h.len];exact BC),by simp;omega,fun x => ?_⟩
  rw [uI,h3 x,htk,uI]
  by_cases a1:x < i
  ·rw [if_pos a1,if_pos a1,uy (by omega)];simp
  ·rw [if_neg a1,if_neg a1]
   by_cases a2:x=i
   ·subst a2;rw [if_pos rfl,if_pos rfl];simp
   ·rw [if_neg a2,if_neg a2,uy (fun h=>a2 h.symm)];simp
 ·obtain ⟨l2,b1,b2,b3⟩:=h.row t BC
  refine ⟨l2,by rw [uB (Ne.symm e2)];exact b1,by omega,fun x => ?_⟩
  rw [b3 x,htk,uI,uy (Ne.symm e2)];simp
structure L2 (G:Gm) (i:Nat) (s:List Int×List Int×List (List Int)×List Int):Prop where
 lr:s.1.length=G.n
 lo:s.2.1.length=G.n
 ef:L1 G i 0 s.2.2.1
 r:∀ j,j < i→at_ s.1 j=if G.lost j=true then 0 else -1
 o:∀ j,j < i→at_ s.2.1 j=((G.succ j).length:Int)
 k:s.2.2.2=cst ((uk i).filter G.lost)
theorem Q9 {b n:Nat} (h:n≤1500) (hb:b≤1000):ei b (n:Int)=some n:=by
 unfold ei
 have:n*b≤1500*1000:=Nat.mul_le_mul h hb
 rw [if_pos ⟨by omega,by omega,by push_cast;omega⟩,uH]
end
end
section
section
variable {c:ax} {zw:Int} {p:aH} {a:bT}
theorem Ma {x:Int} {l:List Int} (nx:Int) (h:l.length≤4000):kG x l nx=some (l++[x]):=by
 unfold kG
 rw [xT (by simp;omega)];rfl
theorem YU {x:Nat} {v:Int} {r l:List Int} {n:Nat} (nx:Int) (hx:x < n) (hr:r.length=n) (h:l.length≤4000):kH (x:Int) v r n l nx=some (l++[(x:Int)],r.set x v):=by
 unfold kH
 rw [zM hx]
 simp only [aV]
 rw [yj (by omega),Ma nx h];rfl
def tC (G:Gm) (r:Nat→Int) (m:Nat):Prop:=∀ i,i < G.n→r i≤m
theorem zjn (hc:c.Ok) (A:bD c zw p a) {r o:List Int} {P Q:List Nat} {u x:Nat} {cn:Nat→Nat} (nx:Int) (hr:r.length=(gm c a).n) (ho:o.length=(gm c a).n)
  (h:fC (gm c a) (at_ r) (at_ o) P u Q cn) (hb:tC (gm c a) (at_ r) (P++u::Q).length) (hx:x < (gm c a).n) (CC:cn x < ((gm c a).succ x).count u) :
  aq (QV (x:Int) (u:Int) o (gm c a).n r (gm c a).n a (cst (P++u::Q)) nx) (fun z=>z.1.length=(gm c a).n∧z.2.1.length=(gm c a).n∧∃ Q',z.2.2=cst (P++u::Q')∧fC (gm c a) (at_ z.2.1) (at_ z.1) P u Q' (upd cn x (cn x+1))∧tC (gm c a) (at_ z.2.1) (P++u::Q').length):=by
 have hn:(gm c a).n≤1500:=A.F.inv.len
 have hroom:=h.room hx CC
 have hop:=h.core.op x hx
 have tT:=A.ER hc x hx
 have hcp:(((gm c a).succ x).countP (yA P))≤((gm c a).succ x).length:=List.countP_le_length
 have hKn:(P++u::Q).length≤(gm c a).n:=by
  have:=ZW (L2:=uk (gm c a).n) h.core.nd (fun y hy=>un.2 (h.core.lt y hy))
  rwa [uz] at this
 obtain ⟨hu,hun,Ch,_,_⟩:=h.core.split
 have hgu:=h.core.ge u hun
 have CB:=h.core.ge x hx
 have hbu:=hb u hun
 have hw1:IntKind.i64.wrap (at_ o x - 1)=at_ o x - 1:=qw (by omega) (by omega)
 have pF:IntKind.i64.wrap (at_ r u+1)=at_ r u+1:=qw (by omega) (by omega)
 have ES:at_ (o.set x (at_ o x - 1))=upd (at_ o) x (at_ o x - 1):=ZX (by omega) _
 have cT:(o.set x (at_ o x - 1))[x]?=some (at_ o x - 1):=um (by omega)
 have hown:(gm c a).own x=(a.aU[x]'(hx)).own:=by
  show (match a.aU[x]? with | some q=>q.own | none=>false)=_
  rw [ua (show x < a.aU.length from hx)]
  rfl
 have hidx:ze a.aU (x:Int)=some (a.aU[x]'hx):=zy (ua (show x < a.aU.length from hx))
 unfold QV
 refine aq.az (zM hx) ?_
 refine aq.az (yj (by omega)) ?_
 rw [hw1]
 by_cases e1:at_ r x = -1
 ·have CD:(at_ r x == -1)=true:=by rw [e1];rfl
  by_cases e2:(gm c a).own x=false∨at_ o x - 1=0
  ·refine aq.az (v:=true) ?_ ?_
   ·rw [zM hx]
    simp only [aV]
    rw [yj (by omega:x < r.length)]
    simp only [aV,CD,bW,hidx]
    rw [←hown]
    rcases e2 with e2 | e2
    ·rw [e2];rfl
    ·rw [cT]
     simp only [aV,e2]
     cases (gm c a).own x<;>rfl
   ·refine aq.ite (fun _ => ?_) (fun h=>by cases h)
    refine aq.az (zM hun) ?_
    refine aq.az (yj (by omega)) ?_
    rw [pF]
    refine aq.az (YU nx hx hr (by rw [Zu];omega)) ?_
    refine aq.some ⟨by simp [ho],by simp [hr],Q++[x],?_,?_,?_⟩
    ·rw [show P++u::(Q++[x])=(P++u::Q)++[x] by simp];exact (WI (P++u::Q) [x]).symm
    ·rw [ES,ZX (by omega)]
     exact h.settle A.closed hx CC e1 e2
    ·intro i hi
     simp only
     rw [ZX (by omega)]
     have:=hb i hi
     unfold upd
     simp only [uv,uC,uU] at this hbu ⊢
     split<;>omega
  ·refine aq.az (v:=false) ?_ ?_
   ·rw [zM hx]
    simp only [aV]
    rw [yj (by omega:x < r.length)]
    simp only [aV,CD,bW,hidx]
    rw [←hown]
    have e3:(gm c a).own x=true:=by
     cases hq:(gm c a).own x with
     | true=>rfl
     | false=>exact absurd (.inl hq) e2
    rw [e3,cT]
    simp only [aV,bW]
    rw [beq_eq_false_iff_ne.2 (fun h=>e2 (.inr h))]
   ·refine aq.ite (fun h=>by cases h) (fun _ => ?_)
    refine aq.some ⟨by simp [ho],hr,Q,rfl,?_,hb⟩
    rw [ES]
    exact h.skip hx CC (.inr ⟨by cases hq:(gm c a).own x with
     | true=>rfl
     | false=>exact absurd (.inl hq) e2,fun h=>e2 (.inr h)⟩)
 ·have CD:(at_ r x == -1)=false:=beq_eq_false_iff_ne.2 e1
  refine aq.az (v:=false) ?_ ?_
  ·rw [zM hx]
   simp only [aV]
   rw [yj (by omega:x < r.length)]
   simp only [aV,CD,b9]
  ·refine aq.ite (fun h=>by cases h) (fun _ => ?_)
   refine aq.some ⟨by simp [ho],hr,Q,rfl,?_,hb⟩
   rw [ES]
   exact h.skip hx CC (.inl e1)
theorem zk2 {l:List Nat} {k:Nat} (hl:l.length≤4000) (hk:k≤l.length):wR (cst l) (k:Int)=some (match l[k]? with | some u=>((u:Int),true,(k:Int)+1) | none=>(0,false,(k:Int))):=by
 unfold wR
 rw [Zu]
 by_cases e:k=l.length
 ·rw [e,uj (uM _)];simp
 ·have h:k < l.length:=by omega
  have w1:IntKind.i64.wrap ((k:Int)+1)=(k:Int)+1:=qw (by omega) (by omega)
  have w2:IntKind.i64.wrap ((k:Int)+1 - 1)=(k:Int):=by rw [show (k:Int)+1 - 1=(k:Int) by omega];exact qw (by omega) (by omega)
  rw [beq_eq_false_iff_ne.2 (show (k:Int)≠(l.length:Int) by omega),w1,w2,ua h]
  simp only [b9]
  rw [zy (l:=cst l) (i:=k) (e:=(l[k]:Int)) (by unfold cst;rw [uq,ua h];rfl)]
  rfl
end
end
section
section
variable {c:ax} {zw:Int} {p:aH} {a:bT}
def xW (G:Gm) (i:Nat):Bool:=G.own i&&(!(G.lost i)&&(G.succ i).isEmpty)
def r2 (G:Gm) (i j:Nat):Int:=if G.lost j=true then 0 else if xW G j=true∧j < i then 1 else -1
def K2 (G:Gm) (i:Nat):List Nat:=(uk G.n).filter G.lost++(uk i).filter (xW G)
structure L3 (G:Gm) (i:Nat) (s:List Int×List Int):Prop where
 lr:s.1.length=G.n
 r:∀ j,j < G.n→at_ s.1 j=r2 G i j
 k:s.2=cst (K2 G i)
theorem znb (G:Gm) (i:Nat):(K2 G i).length≤G.n+i:=by
 unfold K2
 rw [uv]
 have h1:=uu G.lost (uk G.n)
 have h2:=uu (xW G) (uk i)
 rw [uz] at h1 h2
 omega
theorem zhG {G:Gm} {r o:Nat→Int} (hr:∀ j,j < G.n→r j=r2 G G.n j) (ho:∀ j,j < G.n→o j=((G.succ j).length:Int)):lY G r o [] (K2 G G.n)∧tC G r (K2 G G.n).length:=by
 have tl:∀ j,xW G j=true→G.own j=true∧G.lost j=false∧G.succ j=[]:=fun j h=>by
  simpa [xW,ui,List.isEmpty_iff] using h
 have rl:∀ j,j < G.n→G.lost j=true→r j=0:=fun j hj h=>by rw [hr j hj];unfold r2;rw [if_pos h]
 have rt:∀ j,j < G.n→xW G j=true→r j=1:=fun j hj h=>by
  rw [hr j hj];unfold r2;rw [if_neg (by rw [(tl j h).2.1];simp),if_pos ⟨h,hj⟩]
 have rn:∀ j,j < G.n→G.lost j=false→xW G j=false→r j = -1:=fun j hj h h2=>by
  rw [hr j hj];unfold r2;rw [if_neg (by rw [h];simp),if_neg (by rw [h2];simp)]
 have three:∀ j,j < G.n→(G.lost j=true∧r j=0)∨(xW G j=true∧G.lost j=false∧r j=1)∨(G.lost j=false∧xW G j=false∧r j = -1):=fun j hj=>by
  cases h:G.lost j with
  | true=>exact .inl ⟨rfl,rl j hj h⟩
  | false=>cases h2:xW G j with
   | true=>exact .inr (.inl ⟨rfl,rfl,rt j hj h2⟩)
   | false=>exact .inr (.inr ⟨rfl,rfl,rn j hj h h2⟩)
 have hm:∀ j,j∈K2 G G.n↔j < G.n∧(G.lost j=true∨xW G j=true):=fun j=>by
  unfold K2
  rw [ut,uo,uo,un]
  constructor
  ·rintro (⟨h1,h2⟩ | ⟨h1,h2⟩)
   ·exact ⟨h1,.inl h2⟩
   ·exact ⟨h1,.inr h2⟩
  ·rintro ⟨h1,h2 | h2⟩
   ·exact .inl ⟨h1,h2⟩
   ·exact .inr ⟨h1,h2⟩
 have hle:∀ x∈K2 G G.n,r x≤1∧0≤r x:=fun x hx=>by
  obtain ⟨h1,h2⟩:=(hm x).1 hx
  rcases three x h1 with ⟨_,h⟩ | ⟨_,_,h⟩ | ⟨h3,h4,h⟩
  ·omega
  ·omega
  ·rw [h3,h4] at h2;simp at h2
 refine ⟨⟨⟨?_,fun x hx=>((hm x).1 hx).1,fun i hi => ?_,fun i hi => ?_,?_,fun i hi => ?_,fun i hi => ?_,fun i hi h1 h2 h3 => ?_,fun i hi h1 h2 h3 => ?_,fun i hi h1 h2 h3 => ?_,fun i hi h1 h2 h3=>⟨fun t ht h=>(by cases h),rfl⟩⟩,fun q Q' hq x hx => ?_⟩,fun i hi => ?_⟩
 ·rw [ux]
  unfold K2
  refine List.nodup_append.2 ⟨List.nodup_range.sublist uQ,List.nodup_range.sublist uQ,fun x hx y hy e => ?_⟩
  subst e
  have h1:=(uo.1 hx).2
  have h2:=(tl x (uo.1 hy).2).2.1
  rw [h1] at h2;cases h2
 ·rw [ux,hm i]
  rcases three i hi with ⟨h1,h⟩ | ⟨h1,_,h⟩ | ⟨h3,h4,h⟩
  ·rw [h];simp [hi,h1]
  ·rw [h];simp [hi,h1]
  ·rw [h];simp [h3,h4]
 ·rcases three i hi with ⟨_,h⟩ | ⟨_,_,h⟩ | ⟨_,_,h⟩<;>omega
 ·rw [ux]
  unfold K2
  refine List.pairwise_append.2 ⟨?_,?_,fun x hx y hy => ?_⟩
  ·refine uJ fun x hx y hy => ?_
   have h1:=(uo.1 hx);have h2:=(uo.1 hy)
   rw [rl x (un.1 h1.1) h1.2,rl y (un.1 h2.1) h2.2];omega
  ·refine uJ fun x hx y hy => ?_
   have h1:=(uo.1 hx);have h2:=(uo.1 hy)
   rw [rt x (un.1 h1.1) h1.2,rt y (un.1 h2.1) h2.2];omega
  ·have h1:=(uo.1 hx);have h2:=(uo.1 hy)
   rw [rl x (un.1 h1.1) h1.2,rt y (un.1 h2.1) h2.2];omega
 ·rw [ho i hi]
  have:(G.succ i).countP (yA [])=(G.succ i).length:=List.countP_eq_length.2 fun x _=>by simp [yA]
  rw [this];simp
 ·rcases three i hi with ⟨h1,h⟩ | ⟨_,h1,h⟩ | ⟨h1,_,h⟩<;>rw [h,h1]<;>simp
 ·rcases three i hi with ⟨h4,h⟩ | ⟨h4,_,h⟩ | ⟨_,_,h⟩
  ·rw [h2] at h4;cases h4
  ·have h5:=(tl i h4).2.2
   rw [ho i hi,h5,h]
   exact ⟨rfl,fun t ht=>(by cases ht),.inl ⟨rfl,rfl⟩⟩
  ·exact absurd h h3
 ·rw [ho i hi]
  intro h5
  have h6:G.succ i=[]:=List.eq_nil_of_length_eq_zero (by omega)
  have h7:=rt i hi (by simp [xW,h1,h2,h6])
  omega
 ·rcases three i hi with ⟨h4,h⟩ | ⟨h4,_,h⟩ | ⟨_,_,h⟩
  ·rw [h2] at h4;cases h4
  ·have h5:=(tl i h4).1;rw [h1] at h5;cases h5
  ·exact absurd h h3
 ·rw [ux] at hx
  have h1:=(hle x hx).1
  have h2:=(hle q (by rw [hq];simp)).2
  omega
 ·rcases three i hi with ⟨_,h⟩ | ⟨h1,_,h⟩ | ⟨_,_,h⟩
  ·omega
  ·have:0 < (K2 G G.n).length:=uS ((hm i).2 ⟨hi,.inr h1⟩)
   omega
  ·omega
structure QI (G:Gm) (ef:List (List Int)) (s:Int×Bool×List Int×List Int×List Int×Int):Prop where
 lr:s.2.2.1.length=G.n
 lo:s.2.2.2.1.length=G.n
 inv:∃ P Q,lY G (at_ s.2.2.1) (at_ s.2.2.2.1) P Q∧tC G (at_ s.2.2.1) (P++Q).length∧s.2.2.2.2.1=cst (P++Q)∧((s.2.1=false∧Q=[]∧s.2.2.2.2.2=(P.length:Int))∨(s.2.1=true∧∃ u Q',Q=u::Q'∧s.1=(u:Int)∧s.2.2.2.2.2=(P.length:Int)+1))
theorem YV {l:List Nat} {k:Nat} (hk:k < l.length) (x:Nat):(l.take (k+1)).count x=upd (fun y=>(l.take k).count y) l[k] ((l.take k).count l[k]+1) x:=by
 rw [ue hk,uI]
 unfold upd
 by_cases e:x=l[k]
 ·rw [if_pos e,e];simp
 ·rw [if_neg e,uy (fun h=>e h.symm)];simp
theorem zhH {l:List Nat} {k:Nat} (hk:k < l.length):(fun y=>(l.take (k+1)).count y)=upd (fun y=>(l.take k).count y) l[k] ((l.take k).count l[k]+1):=funext fun x=>YV hk x
theorem Mb {G:Gm} {ef:List (List Int)} {P Q:List Nat} {r o:List Int} (hn:G.n≤1500) (hr:r.length=G.n) (ho:o.length=G.n) (h:lY G (at_ r) (at_ o) P Q) (hb:tC G (at_ r) (P++Q).length) :
  ∃ z:Int×Bool×Int,wR (cst (P++Q)) (P.length:Int)=some z∧QI G ef (z.1,z.2.1,r,o,cst (P++Q),z.2.2)∧((z.2.1=false∧z.2.2=(P.length:Int))∨(z.2.1=true∧z.2.2=(P.length:Int)+1))∧P.length≤G.n:=by
 have hK:(P++Q).length≤G.n:=by
  have:=ZW (L2:=uk G.n) h.core.nd (fun y hy=>un.2 (h.core.lt y hy))
  rwa [uz] at this
 refine ⟨_,zk2 (by omega) (by simp),?_⟩
 cases Q with
 | nil=>
  rw [uO,uj (uM _)]
  exact ⟨⟨hr,ho,P,[],h,hb,by rw [uO],.inl ⟨rfl,rfl,rfl⟩⟩,.inl ⟨rfl,rfl⟩,by simpa using hK⟩
 | cons u Q'=>
  rw [List.getElem?_append_right (uM _),Uc]
  exact ⟨⟨hr,ho,P,u::Q',h,hb,rfl,.inr ⟨rfl,u,Q',rfl,rfl,rfl⟩⟩,.inr ⟨rfl,rfl⟩,by rw [uv] at hK;omega⟩
theorem zhJ (hc:c.Ok) (A:bD c zw p a):aq (yF c a) (fun r=>r.length=a.aU.length∧XD (gm c a) (at_ r)∧∀ i,i < a.aU.length→at_ r i≤1500):=by
 have hn:a.aU.length≤1500:=A.F.inv.len
 have tD:(gm c a).n=a.aU.length:=rfl
 unfold yF
 refine aq.az (zcU hc A) ?_
 refine aq.ite (fun _ => ?_) (fun h=>by cases h)
 refine aq.az (Q9 hn (by omega)) ?_
 refine aq.az (Q9 hn (by omega)) ?_
 refine aq.az (Q9 hn (by omega)) ?_
 refine aq.bind (P:=fun o:(List Int×List Int×List (List Int)×List Int) ⊕ Unit=>∃ s,o=.inl s∧L2 (gm c a) a.aU.length s) (aq.dP (L2 (gm c a)) (by omega) ?_ (fun i s hi hs => ?_) (fun s h=>⟨s,rfl,h⟩)) ?_
 ·refine ⟨by simp [tD],by simp [tD],⟨by simp [tD],fun t ht=>⟨[],?_,by simp,fun x => ?_⟩⟩,fun j hj=>by omega,fun j hj=>by omega,rfl⟩
  ·rw [List.getElem?_replicate,if_pos (by rw [←tD];exact ht)];rfl
  ·simp
 ·obtain ⟨R,O,B,K⟩:=s
  obtain ⟨hlr,hlo,oL,hr,ho,hk⟩:=hs
  simp only at hlr hlo oL hr ho hk ⊢
  obtain ⟨T,hT,hM⟩:=A.mv hi
  have BB:=A.len hc hi hT
  have eD:=A.succ hi hT
  have oM:(gm c a).lost i=qF c a.aU[i].state a.zw:=by
   show (match a.aU[i]? with | some q=>qF c q.state a.zw | none=>false)=_
   rw [ua hi]
  refine aq.bind (P:=fun v=>L2 (gm c a) (i+1) v) ?_ (fun v hv=>aq.some hv)
  refine aq.az (zy (ua hi)) ?_
  refine aq.az (zy hT) ?_
  refine aq.az (zM hi) ?_
  refine aq.az (yj (by omega)) ?_
  refine aq.az (zM hi) ?_
  refine aq.az (yj (by omega)) ?_
  refine aq.az (zy hT) ?_
  refine aq.bind (P:=fun o:List (List Int) ⊕ Unit=>∃ b,o=.inl b∧L1 (gm c a) i T.length b) (aq.dP (fun k b=>L1 (gm c a) i k b) (by omega) oL (fun k b hk2 hb => ?_) (fun b h=>⟨b,rfl,h⟩)) ?_
  ·have hto:=A.to hi hT (uc hk2)
   refine aq.az (zy (ua hk2)) ?_
   have h1:(gm c a).succ i=T.map fun m=>m.to.toNat:=eD
   have h2:=hb.step (G:=gm c a) hn hi (by omega) (to:=T[k].to.toNat) (by rw [h1,uq,ua hk2];rfl) (by rw [tD];omega)
   rw [uR hto.1] at h2
   exact aq.bind h2 (fun v hv=>aq.some hv)
  ·rintro _ ⟨b,rfl,hb⟩
   simp only [uw]
   have hb':=hb.next (by rw [eD,ur]) BB
   have hR1:at_ (R.set i (-1))=upd (at_ R) i (-1):=ZX (by omega) _
   have Mc:at_ (O.set i (T.length:Int))=upd (at_ O) i (T.length:Int):=ZX (by omega) _
   have Md:∀ j,j < i+1→upd (at_ O) i (T.length:Int) j=(((gm c a).succ j).length:Int):=fun j hj=>by
    unfold upd
    by_cases e:j=i
    ·rw [if_pos e,e,eD,ur]
    ·rw [if_neg e];exact ho j (by omega)
   have oN:(uk (i+1)).filter (gm c a).lost=(uk i).filter (gm c a).lost++(bif (gm c a).lost i then [i] else []):=by
    rw [uP,uF]
    cases h:(gm c a).lost i<;>simp [h]
   refine aq.az (zna hc (A.F.inv.vs _ (uc hi)) a.zw) ?_
   refine aq.ite (fun hl => ?_) (fun hl => ?_)
   ·rw [←oM] at hl
    refine aq.az (zM hi) ?_
    refine aq.az (um (by omega)) ?_
    have hK:K.length≤1500:=by
     rw [hk,Zu]
     have:=uu (gm c a).lost (uk i)
     rw [uz] at this;omega
    refine aq.az (Ma 0 (by omega)) ?_
    refine aq.some ⟨by simp [hlr],by simp [hlo],hb',fun j hj => ?_,fun j hj => ?_,?_⟩
    ·simp only
     rw [Ud,ZX (by omega)]
     unfold upd
     by_cases e:j=i
     ·rw [if_pos e,e,if_pos hl]
     ·rw [if_neg e];exact hr j (by omega)
    ·simp only;rw [Mc];exact Md j hj
    ·simp only;rw [hk,oN,hl,bW,WI];rfl
   ·rw [←oM] at hl
    refine aq.some ⟨by simp [hlr],by simp [hlo],hb',fun j hj => ?_,fun j hj => ?_,?_⟩
    ·simp only
     rw [hR1]
     unfold upd
     by_cases e:j=i
     ·rw [if_pos e,e,if_neg (by rw [hl];simp)]
     ·rw [if_neg e];exact hr j (by omega)
    ·simp only;rw [Mc];exact Md j hj
    ·simp only;rw [hk,oN,hl,b9,uO]
 ·rintro _ ⟨⟨R,O,B,K⟩,rfl,hlr,hlo,oL,hr,ho,hk⟩
  simp only [uw] at hlr hlo oL hr ho hk ⊢
  refine aq.bind (P:=fun o:(List Int×List Int) ⊕ Unit=>∃ s,o=.inl s∧L3 (gm c a) a.aU.length s) (aq.dP (L3 (gm c a)) (by omega) ?_ (fun i s hi hs => ?_) (fun s h=>⟨s,rfl,h⟩)) ?_
  ·refine ⟨hlr,fun j hj => ?_,?_⟩
   ·rw [hr j hj];unfold r2
    split
    ·rfl
    ·rw [if_neg (by omega)]
   ·simp only;rw [hk];unfold K2;rw [List.range_zero,List.filter_nil,uO];rfl
  ·obtain ⟨R1,K1⟩:=s
   obtain ⟨h1,h2,h3⟩:=hs
   simp only at h1 h2 h3 ⊢
   have hown:(gm c a).own i=a.aU[i].own:=by
    show (match a.aU[i]? with | some q=>q.own | none=>false)=_
    rw [ua hi]
   have hsame:xW (gm c a) i=false→L3 (gm c a) (i+1) (R1,K1):=fun ht=>by
    refine ⟨h1,fun j hj => ?_,?_⟩
    ·simp only;rw [h2 j hj];unfold r2
     split
     ·rfl
     ·by_cases e:j=i
      ·subst e;rw [if_neg (by rw [ht];simp),if_neg (by rw [ht];simp)]
      ·by_cases e2:xW (gm c a) j=true∧j < i
       ·rw [if_pos e2,if_pos ⟨e2.1,by omega⟩]
       ·rw [if_neg e2,if_neg (fun h=>e2 ⟨h.1,by have:=h.2;omega⟩)]
    ·simp only;rw [h3];unfold K2;rw [uP,uF];simp [ht]
   refine aq.bind (P:=fun v=>L3 (gm c a) (i+1) v) ?_ (fun v hv=>aq.some hv)
   refine aq.az (zy (ua hi)) ?_
   have tv:(bif a.aU[i].own then (uG (zi a.aU.length (i:Int)) fun k7=>(uG (O[k7]?) fun e9=>(bif (e9 == 0) then (uG (zi a.aU.length (i:Int)) fun k8=>(uG (R1[k8]?) fun dW=>some (dW == (-1)))) else some false))) else some false)=some (xW (gm c a) i):=by
    rw [zM hi]
    simp only [aV]
    rw [yj (by omega:i < O.length),yj (by omega:i < R1.length)]
    simp only [aV]
    rw [ho i hi,h2 i hi,←hown]
    unfold xW r2
    cases e1:(gm c a).own i with
    | false=>rfl
    | true=>
     cases e2:(gm c a).succ i with
     | cons x l=>
      rw [beq_eq_false_iff_ne.2 (by simp;omega)];simp
     | nil=>
      cases e3:(gm c a).lost i with
      | true=>rfl
      | false=>simp
   refine aq.az tv ?_
   refine aq.ite (fun ht => ?_) (fun ht=>aq.some (hsame ht))
   have ET:K1.length≤4000:=by
    rw [h3,Zu]
    have:=znb (gm c a) i
    omega
   refine aq.az (YU 0 hi h1 ET) ?_
   refine aq.some ⟨by simp [h1],fun j hj => ?_,?_⟩
   ·simp only
    rw [ZX (by omega)]
    unfold upd
    by_cases e:j=i
    ·subst e
     have h4:(gm c a).lost j=false:=by
      simp only [xW,ui,uh] at ht;exact ht.2.1
     rw [if_pos rfl];unfold r2;rw [if_neg (by rw [h4];simp),if_pos ⟨ht,by omega⟩]
    ·rw [if_neg e,h2 j hj];unfold r2
     split
     ·rfl
     ·by_cases e2:xW (gm c a) j=true∧j < i
      ·rw [if_pos e2,if_pos ⟨e2.1,by omega⟩]
      ·rw [if_neg e2,if_neg (fun h=>e2 ⟨h.1,by have:=h.2;omega⟩)]
   ·simp only;rw [h3];unfold K2;rw [uP,uF,←List.append_assoc,WI];simp [ht,cst]
  ·rintro _ ⟨⟨R1,K1⟩,rfl,h1,h2,h3⟩
   simp only [uw] at h1 h2 h3 ⊢
   obtain ⟨hB,hbd⟩:=zhG (G:=gm c a) (r:=at_ R1) (o:=at_ O) h2 ho
   have hQ0:=Mb (ef:=B) (P:=[]) hn h1 hlo hB (by rw [ux];exact hbd)
   refine aq.bind (P:=fun v:List Int=>v.length=(gm c a).n∧XD (gm c a) (at_ v)∧∀ i,i < (gm c a).n→at_ v i≤1500) ?_ ?_
   ·obtain ⟨z,hz,hq,_⟩:=hQ0
    have ET:K1=cst ([]++K2 (gm c a) (gm c a).n):=by rw [h3,ux];rfl
    rw [ET]
    refine aq.az hz ?_
    refine aq.bind (P:=fun y:List Int=>y.length=(gm c a).n∧XD (gm c a) (at_ y)∧∀ i,i < (gm c a).n→at_ y i≤1500) (aq.iter (QI (gm c a) B) (fun s=>2*((gm c a).n+2 - s.2.2.2.2.2.toNat)+(bif s.2.1 then 1 else 0)) hq (fun s hs => ?_)) (fun y hy=>aq.some hy)
    obtain ⟨to,ok,R2,O2,K3,nx⟩:=s
    obtain ⟨g1,g2,P,Q,g3,g4,g5,g6⟩:=hs
    simp only at g1 g2 g3 g4 g5 g6 ⊢
    have hKn:(P++Q).length≤(gm c a).n:=by
     have:=ZW (L2:=uk (gm c a).n) g3.core.nd (fun y hy=>un.2 (g3.core.lt y hy))
     rwa [uz] at this
    rcases g6 with ⟨rfl,rfl,g7⟩ | ⟨rfl,u,Q',rfl,rfl,rfl⟩
    ·refine aq.ite (fun h=>by cases h) (fun _ => ?_)
     exact aq.some ⟨g1,(g3.done A.closed).ok A.closed,fun i hi=>by have:=g4 i hi;omega⟩
    ·refine aq.ite (fun _ => ?_) (fun h=>by cases h)
     have E:=g3.enter
     obtain ⟨_,hun,_⟩:=E.core.split
     obtain ⟨l,l1,l2,l3⟩:=oL.row u hun
     have iU:∀ x,x < (gm c a).n→l.count x=((gm c a).succ x).count u:=fun x hx=>by rw [l3 x,if_pos (by rw [←tD];exact hx)]
     have BD:∀ x∈l,x < (gm c a).n:=fun x hx=>by
      have h5:0 < l.count x:=List.count_pos_iff.2 hx
      rw [l3 x] at h5
      split at h5
      ·rename_i h6;exact h6
      ·split at h5
       ·simp at h5
       ·omega
     refine aq.az (zM hun) ?_
     refine aq.az l1 ?_
     refine aq.bind (P:=fun o:(List Int×List Int×List Int) ⊕ Unit=>∃ s5,o=.inl s5∧s5.1.length=(gm c a).n∧s5.2.1.length=(gm c a).n∧∃ Q2,s5.2.2=cst (P++u::Q2)∧fC (gm c a) (at_ s5.1) (at_ s5.2.1) P u Q2 (fun y=>l.count y)∧tC (gm c a) (at_ s5.1) (P++u::Q2).length) ?_ ?_
     ·rw [Zu]
      refine aq.dP (fun k s5=>s5.1.length=(gm c a).n∧s5.2.1.length=(gm c a).n∧∃ Q2,s5.2.2=cst (P++u::Q2)∧fC (gm c a) (at_ s5.1) (at_ s5.2.1) P u Q2 (fun y=>(l.take k).count y)∧tC (gm c a) (at_ s5.1) (P++u::Q2).length) (by omega) ⟨g1,g2,Q',g5,by simpa using E,g4⟩ (fun k s5 hk hs5 => ?_) (fun s5 h=>⟨s5,rfl,by rw [uD] at h;exact h⟩)
      obtain ⟨R4,O4,K4⟩:=s5
      obtain ⟨i1,i2,Q2,i3,i4,i5⟩:=hs5
      simp only at i1 i2 i3 i4 i5 ⊢
      have hx:=BD _ (uc hk)
      refine aq.az (zy (e:=(l[k]:Int)) (by unfold cst;rw [uq,ua hk];rfl)) ?_
      rw [i3]
      refine aq.bind (zjn hc A _ i1 i2 i4 i5 hx ?_) (fun z hz => ?_)
      ·have h6:=YV hk l[k]
       unfold upd at h6
       rw [if_pos rfl] at h6
       have h7:(l.take (k+1)).count l[k]≤l.count l[k]:=(List.take_sublist _ _).count_le _
       rw [iU _ hx] at h7
       show (l.take k).count l[k] < _
       omega
      ·obtain ⟨j1,j2,Q3,j3,j4,j5⟩:=hz
       refine aq.some ⟨j2,j1,Q3,j3,?_,j5⟩
       simp only
       rw [zhH hk];exact j4
     ·rintro _ ⟨⟨R4,O4,K4⟩,rfl,i1,i2,Q2,i3,i4,i5⟩
      simp only [uw] at i1 i2 i3 i4 i5 ⊢
      have hB2:=i4.leave iU
      have hPQ:P++[u]++Q2=P++u::Q2:=by simp
      obtain ⟨z2,iF,Av,EU,Me⟩:=Mb (ef:=B) (P:=P++[u]) (Q:=Q2) hn i1 i2 hB2 (by rw [hPQ];exact i5)
      rw [hPQ] at iF Av
      rw [i3]
      have nX:((P++[u]).length:Int)=(P.length:Int)+1:=by simp
      rw [nX] at iF
      refine aq.az iF ?_
      refine aq.some ⟨Av,?_⟩
      simp only [bW]
      rw [uv] at EU Me
      simp only [uC,uU] at EU Me
      rcases EU with ⟨e1,e2⟩ | ⟨e1,e2⟩
      ·rw [e1,e2,b9];omega
      ·rw [e1,e2,bW];omega
   ·intro v hv
    refine aq.az (wn (tD.symm.trans hv.1.symm)) ?_
    exact aq.some hv
end
end
theorem dM.get {c:ax} {hs:List Int} {ms r:List aj} (h:dM c hs ms r) {i:Nat} {m:aj} (hi:i < c.ay.length) (hm:ms[i]?=some m) (h0:m.aR≠0):r[i]?=some m:=by
 have hl:i < r.length:=by rw [h.ok.1];exact hi
 rw [ua hl]
 rcases h.rel i m r[i] hm (ua hl) with e | ⟨e,_⟩
 ·rw [e]
 ·exact absurd e h0
theorem Qv {c:ax} {s:aG} {zw:Int}:qF c s zw=true↔∃ (i:Nat) (k:aO) (m:aj),c.ay[i]?=some k∧s.aI[i]?=some m∧k.final=true∧m.aR=4∧m.bz=zw:=by
 unfold qF
 rw [uh,List.all_eq_false]
 constructor
 ·rintro ⟨i,hi,h⟩
  simp only [uh,Bool.not_eq_false,KB] at h
  split at h
  ·rename_i k m hk hm
   simp only [ui,beq_iff_eq] at h
   exact ⟨i,k,m,hk,hm,h.1,h.2.1,h.2.2⟩
  ·cases h
 ·rintro ⟨i,k,m,hk,hm,h1,h2,h3⟩
  refine ⟨i,un.2 (ub.1 hm).1,?_⟩
  simp [KB,hk,hm,h1,h2,h3]
theorem zfv {c:ax} {zw:Int} {q:aH} {m:Int} (hm:m∈zq c zw q):(m = -2∧q.own=true)∨(-1≤m∧m < c.aK.length∧q.state.day < c.aX):=by
 rcases zO.1 hm with ⟨h1,h2⟩ | ⟨h1,_,h2⟩ | ⟨h1,i,h2,_,h3⟩
 ·exact .inl ⟨h2,h1⟩
 ·exact .inr ⟨by omega,by omega,h1⟩
 ·exact .inr ⟨by omega,by omega,h1⟩
theorem wT (c:ax) (q:aH):target c q (-2)={state:=q.state,own:=false}:=if_pos rfl
theorem xe (c:ax) (q:aH) {m:Int} (h : -1≤m):target c q m={state:=zI c q.state m,own:=true}:=if_neg (by omega)
theorem zjo {c:ax} {zw:Int} {p:aH} {r:bT×Int} (h:qD c zw p=some r) (hr:r.2≠0):r.1=YS:=by
 unfold qD at h
 obtain ⟨b,_,h⟩:=jy h
 cases b with
 | false=>cases h;rfl
 | true=>
  rw [bW] at h
  obtain ⟨_,_,h⟩:=jy h
  obtain ⟨_,_,h⟩:=jy h
  obtain ⟨o,_,h⟩:=jy h
  cases o with
  | inl s=>cases h;exact absurd rfl hr
  | inr u=>cases h;rfl
theorem zhK {c:ax} {zw:Int} {r:bT×Int} (h:xn c zw=some r) (hr:r.2≠0):r.1=YS:=by
 unfold xn at h
 obtain ⟨s,_,h⟩:=jy h
 cases hs:(s.2 == 0) with
 | true=>
  rw [hs,bW] at h
  obtain ⟨f,hf,h⟩:=jy h
  cases h
  exact zjo hf hr
 | false=>rw [hs] at h;cases h;rfl
def znc (c:ax) (zw:Int) (r:bT×Int):Prop:=(r.2≠0∧r.1=YS)∨(r.2=0∧∃ s0,qM c=some (s0,0)∧VS c s0∧bD c zw {state:=s0,own:=true} r.1)
theorem zk3 {c:ax} (hc:c.Ok) (zw:Int):aq (xn c zw) (znc c zw):=by
 obtain ⟨r,hr,h⟩:=zhF hc zw
 refine ⟨r,hr,?_⟩
 rcases h with h | ⟨h,s0,h1,h2,h3,h4,h5,h6⟩
 ·exact .inl ⟨h,zhK hr h⟩
 ·exact .inr ⟨h,s0,h1,h2,h3,h4,h5,h6⟩
section
section
variable {c:ax} {zw:Int} {p:aH} {a:bT}
theorem bD.lost (A:bD c zw p a) {i:Nat} (hi:i < a.aU.length):(gm c a).lost i=qF c a.aU[i].state zw:=by
 show (match a.aU[i]? with | some q=>qF c q.state a.zw | none=>false)=_
 rw [ua hi,A.pa]
theorem bD.own (A:bD c zw p a) {i:Nat} (hi:i < a.aU.length):(gm c a).own i=a.aU[i].own:=by
 show (match a.aU[i]? with | some q=>q.own | none=>false)=_
 rw [ua hi]
theorem bD.pos (A:bD c zw p a):0 < a.aU.length:=(ub.1 A.F.first).1
theorem bD.tgt (A:bD c zw p a) {i:Nat} (hi:i < a.aU.length) {T:List bh} (hT:a.bp[i]?=some T) {m:bh} (hm:m∈T) :
  m.step∈zq c zw a.aU[i]∧0≤m.to∧∃ h:m.to.toNat < a.aU.length,a.aU[m.to.toNat]=target c a.aU[i] m.step:=by
 obtain ⟨T',h1,h2,h3⟩:=A.mv hi
 rw [hT] at h1;cases h1
 obtain ⟨h4,h5⟩:=h3 m hm
 obtain ⟨h6,h7⟩:=ub.1 h5
 exact ⟨by rw [←h2];exact ud.2 ⟨m,hm,rfl⟩,h4,h6,h7⟩
theorem bD.ne (A:bD c zw p a) {i:Nat} (hi:i < a.aU.length) {T:List bh} (hT:a.bp[i]?=some T) (ho:a.aU[i].own=true):T≠[]:=by
 obtain ⟨T',h1,h2,_⟩:=A.mv hi
 rw [hT] at h1;cases h1
 intro e
 subst e
 have:(-2:Int)∈zq c zw a.aU[i]:=zO.2 (.inl ⟨ho,rfl⟩)
 rw [←h2] at this;cases this
end
end
section
def dy (c:ax) (zw:Int):Nat→aH→Prop
 | 0,q=>qF c q.state zw=true
 | k+1,q=>qF c q.state zw=true∨(q.own=true∧∀ m∈zq c zw q,dy c zw k (target c q m))∨(q.own=false∧∃ m∈zq c zw q,dy c zw k (target c q m))
def qI (c:ax) (zw:Int) (q:aH):Prop:=∀ k,¬ dy c zw k q
theorem dy.zero {c:ax} {zw:Int} {q:aH} (h:qF c q.state zw=true):∀ k,dy c zw k q
 | 0=>h
 | k+1=>.inl h
theorem dy.gQ {c:ax} {zw:Int}:∀ {k:Nat} {q:aH},dy c zw k q→dy c zw (k+1) q
 | 0,q,h=>.inl h
 | k+1,q,h=>by
  rcases h with h | ⟨h1,h2⟩ | ⟨h1,t,h2,h3⟩
  ·exact .inl h
  ·exact .inr (.inl ⟨h1,fun t ht=>(h2 t ht).gQ⟩)
  ·exact .inr (.inr ⟨h1,t,h2,h3.gQ⟩)
theorem dy.mono {c:ax} {zw:Int} {k k':Nat} {q:aH} (hk:k≤k') (h:dy c zw k q):dy c zw k' q:=by
 induction hk with
 | refl=>exact h
 | step _ ih=>exact ih.gQ
section
variable {c:ax} {zw:Int} {p:aH} {a:bT}
theorem Mf (A:bD c zw p a):∀ (k i:Nat) (hi:i < a.aU.length),Attr (gm c a) k i↔dy c zw k a.aU[i]
 | 0,i,hi=>by show (gm c a).lost i=true↔_;rw [A.lost hi];rfl
 | k+1,i,hi=>by
  obtain ⟨T,hT,hst,_⟩:=A.mv hi
  have hs:=A.succ hi hT
  have go:∀ m∈T,(Attr (gm c a) k m.to.toNat↔dy c zw k (target c a.aU[i] m.step)):=fun m hm=>by
   obtain ⟨_,_,t3,t4⟩:=A.tgt hi hT hm
   rw [Mf A k _ t3,t4]
  have hall:(∀ t∈(gm c a).succ i,Attr (gm c a) k t)↔∀ m∈zq c zw a.aU[i],dy c zw k (target c a.aU[i] m):=by
   rw [hs,←hst]
   constructor
   ·intro h x hx
    obtain ⟨m,hm,rfl⟩:=ud.1 hx
    exact (go m hm).1 (h _ (ud.2 ⟨m,hm,rfl⟩))
   ·intro h x hx
    obtain ⟨m,hm,rfl⟩:=ud.1 hx
    exact (go m hm).2 (h _ (ud.2 ⟨m,hm,rfl⟩))
  have hex:(∃ t∈(gm c a).succ i,Attr (gm c a) k t)↔∃ m∈zq c zw a.aU[i],dy c zw k (target c a.aU[i] m):=by
   rw [hs,←hst]
   constructor
   ·rintro ⟨x,hx,h⟩
    obtain ⟨m,hm,rfl⟩:=ud.1 hx
    exact ⟨_,ud.2 ⟨m,hm,rfl⟩,(go m hm).1 h⟩
   ·rintro ⟨x,hx,h⟩
    obtain ⟨m,hm,rfl⟩:=ud.1 hx
    exact ⟨_,ud.2 ⟨m,hm,rfl⟩,(go m hm).2 h⟩
  show ((gm c a).lost i=true∨((gm c a).own i=true∧∀ t∈(gm c a).succ i,Attr (gm c a) k t)∨((gm c a).own i=false∧∃ t∈(gm c a).succ i,Attr (gm c a) k t))↔_
  rw [A.lost hi,A.own hi,hall,hex]
  rfl
def oO (c:ax) (zw:Int) (q:aH) (x:Int):Prop := -1≤x∧∀ k:Nat,(x ≠ -1∧x≤k)↔dy c zw k q
theorem znd (A:bD c zw p a) {r:Nat→Int} (hr:XD (gm c a) r) {i:Nat} (hi:i < a.aU.length):oO c zw a.aU[i] (r i):=
 ⟨(hr i hi).1,fun k=>((hr i hi).2 k).trans (Mf A k i hi)⟩
theorem oO.safe {q:aH} {x:Int} (h:oO c zw q x):x = -1↔qI c zw q:=by
 constructor
 ·intro e k hk
  exact ((h.2 k).2 hk).1 e
 ·intro hs
  have:=h.1
  by_cases e:x = -1
  ·exact e
  ·exact absurd ((h.2 x.toNat).1 ⟨e,by omega⟩) (hs _)
end
theorem Mh {c:ax} {zw:Int} {p:aH} {L:List aH} (hl:L.length≤1500) (h:∀ x,mX c zw p x→x∈L):¬ BA c zw p:=by
 rintro ⟨L1,h1,h2,q,h3,h4⟩
 have h5:(q::L1).Nodup:=u7.2 ⟨h4,h1.nd⟩
 have:=ZW (L2:=L) h5 (fun x hx=>by
  rcases uY.1 hx with e | hx
  ·rw [e];exact h q h3
  ·exact h x (h1.rO x hx))
 rw [uC] at this
 omega
theorem zk4 {c:ax} (hc:c.Ok) {zw:Int} {p:aH} {a:bT} (A:bD c zw p a) {q:aH} (hq:q∈a.aU):aq (qD c zw q) (fun r=>r.2=0∧bD c zw q r.1∧∀ x∈r.1.aU,x∈a.aU):=by
 have cU:jK c zw q.state=true:=qX.2 ⟨A.p0,A.p1,A.F.inv.vs q hq⟩
 refine aq.mono (Vw hc cU) ?_
 rintro r (⟨h0,h1,h2⟩ | ⟨_,hm⟩)
 ·exact ⟨h0,⟨A.p0,A.p1,h1,h2⟩,fun x hx=>A.F.rO hq (h2.inv.rO x hx)⟩
 ·exact absurd hm (Mh A.F.inv.len fun x hx=>A.F.rO hq hx)
end
section
open Classical in
noncomputable def zz (c:ax) (zw:Int) (q:aH):Bool:=decide (qI c zw q)
theorem zX {c:ax} {zw:Int} {q:aH}:zz c zw q=true↔qI c zw q:=by unfold zz;simp
theorem vK {c:ax} {zw:Int} {q:aH} (h:qI c zw q):qF c q.state zw=false:=by
 cases e:qF c q.state zw with
 | false=>rfl
 | true=>exact absurd e (h 0)
theorem zfw {c:ax} {zw:Int} (l:List Int) (f:Int→aH) (h:∀ m∈l,¬ qI c zw (f m)):∃ k,∀ m∈l,dy c zw k (f m):=by
 induction l with
 | nil=>exact ⟨0,fun m hm=>by cases hm⟩
 | cons x l ih=>
  obtain ⟨k,hk⟩:=ih fun m hm=>h m (uW _ hm)
  have hx:=h x uZ
  obtain ⟨k2,hk2⟩:∃ k,dy c zw k (f x):=Classical.not_forall_not.1 hx
  refine ⟨k+k2,fun m hm => ?_⟩
  rcases uY.1 hm with rfl | hm
  ·exact hk2.mono (by omega)
  ·exact (hk m hm).mono (by omega)
theorem ZY {c:ax} {zw:Int} {q:aH} (ho:q.own=true):qI c zw q↔qF c q.state zw=false∧∃ m∈zq c zw q,qI c zw (target c q m):=by
 constructor
 ·intro h
  refine ⟨vK h,?_⟩
  apply Classical.byContradiction
  intro hn
  obtain ⟨k,hk⟩:=zfw (zq c zw q) (target c q) (fun m hm hs=>hn ⟨m,hm,hs⟩)
  exact h (k+1) (.inr (.inl ⟨ho,hk⟩))
 ·rintro ⟨h1,m,hm,h2⟩ k hk
  cases k with
  | zero=>
   have hk:qF c q.state zw=true:=hk
   rw [h1] at hk;cases hk
  | succ k=>
   rcases hk with hk | ⟨_,hk⟩ | ⟨hk,_⟩
   ·rw [h1] at hk;cases hk
   ·exact h2 k (hk m hm)
   ·rw [ho] at hk;cases hk
theorem Vx {c:ax} {zw:Int} {q:aH} (ho:q.own=false):qI c zw q↔qF c q.state zw=false∧∀ m∈zq c zw q,qI c zw (target c q m):=by
 constructor
 ·intro h
  exact ⟨vK h,fun m hm k hk=>h (k+1) (.inr (.inr ⟨ho,m,hm,hk⟩))⟩
 ·rintro ⟨h1,h2⟩ k hk
  cases k with
  | zero=>
   have hk:qF c q.state zw=true:=hk
   rw [h1] at hk;cases hk
  | succ k=>
   rcases hk with hk | ⟨hk,_⟩ | ⟨_,m,hm,hk⟩
   ·rw [h1] at hk;cases hk
   ·rw [ho] at hk;cases hk
   ·exact h2 m hm k hk
theorem W7 {c:ax} {zw:Int} (W:aH→Prop) (h1:∀ q,W q→qF c q.state zw=false) (h2:∀ q,W q→q.own=true→∃ m∈zq c zw q,W (target c q m)) (h3:∀ q,W q→q.own=false→∀ m∈zq c zw q,W (target c q m)):∀ q,W q→qI c zw q:=by
 intro q hq k
 induction k generalizing q with
 | zero=>
  intro h
  have h:qF c q.state zw=true:=h
  rw [h1 q hq] at h;cases h
 | succ k ih=>
  rintro (h | ⟨ho,h⟩ | ⟨ho,m,hm,h⟩)
  ·rw [h1 q hq] at h;cases h
  ·obtain ⟨m,hm,hw⟩:=h2 q hq ho
   exact ih _ hw (h m hm)
  ·exact ih _ (h3 q hq ho m hm) h
section
variable {c:ax} {zw:Int} {p:aH} {a:bT}
theorem JR (hc:c.Ok) (A:bD c zw p a):yd c a=some (a.aU.map (zz c zw)):=by
 refine aq.eq ?_
 have hn:a.aU.length≤1500:=A.F.inv.len
 unfold yd
 refine aq.bind (zhJ hc A) ?_
 rintro r ⟨hl,hr,_⟩
 have hmk:ei 1 (r.length:Int)=some a.aU.length:=by rw [hl];exact Q9 hn (by omega)
 refine aq.az hmk ?_
 refine aq.bind (P:=fun o:List Bool ⊕ Unit=>o=.inl (a.aU.map (zz c zw))) (aq.dP (fun i s=>s.length=a.aU.length∧∀ j,j < i→s[j]?=(a.aU.map (zz c zw))[j]?) (by omega) ⟨by simp,fun j hj=>by omega⟩ (fun i s hi hs => ?_) (fun s hs => ?_)) ?_
 ·have hi':i < a.aU.length:=by omega
  refine aq.az (zy (yj hi)) ?_
  refine aq.az (zM hi') ?_
  refine aq.az (ua (show i < s.length by omega)) ?_
  refine aq.some ⟨by simp [hs.1],fun j hj => ?_⟩
  by_cases e:j=i
  ·subst e
   rw [um (by omega),uq,ua hi']
   simp only [uV,Option.some.injEq]
   have h1:=(znd A hr hi').safe
   cases h2:zz c zw a.aU[j] with
   | true=>rw [h1.2 (zX.1 h2)];rfl
   | false=>
    refine beq_eq_false_iff_ne.2 fun e => ?_
    rw [zX.2 (h1.1 e)] at h2;cases h2
  ·rw [uB (Ne.symm e)];exact hs.2 j (by omega)
 ·have e:s=a.aU.map (zz c zw):=uK fun j=>by
   by_cases h:j < r.length
   ·exact hs.2 j h
   ·rw [uj (by omega),uj (by simp;omega)]
  rw [e]
 ·rintro _ rfl
  simp only [uw]
  refine aq.az (wn (by simp)) ?_
  exact aq.some rfl
noncomputable def qb (c:ax) (zw:Int) (q:aH):Int:=
 bif q.own&&zz c zw q then ((zq c zw q).find? fun m=>zz c zw (target c q m)).getD (-2) else -2
theorem Ja (A:bD c zw p a) {i:Nat} (hi:i < a.aU.length):ze (a.aU.map (zz c zw)) (i:Int)=some (zz c zw a.aU[i]):=zy (by rw [uq,ua hi];rfl)
theorem Mi (A:bD c zw p a) {i:Nat} (hi:i < a.aU.length) {T:List bh} (hT:a.bp[i]?=some T) {m:bh} (hm:m∈T):ze (a.aU.map (zz c zw)) m.to=some (zz c zw (target c a.aU[i] m.step)):=by
 obtain ⟨_,t2,t3,t4⟩:=A.tgt hi hT hm
 have:=Ja A t3
 rw [uR t2,t4] at this
 exact this
theorem W8 (hc:c.Ok) (A:bD c zw p a):kJ a (a.aU.map (zz c zw))=some (a.aU.map (qb c zw)):=by
 refine aq.eq ?_
 have hn:a.aU.length≤1500:=A.F.inv.len
 unfold kJ
 refine aq.az (Q9 hn (by omega)) ?_
 refine aq.bind (P:=fun o:List Int ⊕ Unit=>o=.inl (a.aU.map (qb c zw))) (aq.dP (fun i s=>s.length=a.aU.length∧∀ j,j < i→s[j]?=(a.aU.map (qb c zw))[j]?) (by omega) ⟨by simp,fun j hj=>by omega⟩ (fun i s hi hs => ?_) (fun s hs => ?_)) ?_
 ·obtain ⟨T,hT,hst,_⟩:=A.mv hi
  have BB:=A.len hc hi hT
  have EV:∀ x:Int,x=qb c zw a.aU[i]→(s.set i x).length=a.aU.length∧∀ j,j < i+1→(s.set i x)[j]?=(a.aU.map (qb c zw))[j]?:=fun x hx=>by
   refine ⟨by simp [hs.1],fun j hj => ?_⟩
   by_cases e:j=i
   ·subst e
    rw [um (by omega),uq,ua hi,hx];rfl
   ·rw [uB (Ne.symm e)];exact hs.2 j (by omega)
  refine aq.bind (P:=fun s2:List Int=>∃ x,x=qb c zw a.aU[i]∧s2=s.set i x) ?_ (fun s2 h=>by obtain ⟨x,h1,rfl⟩:=h;exact aq.some (EV x h1))
  refine aq.az (zy (ua hi)) ?_
  refine aq.az (zM hi) ?_
  refine aq.az (ua (show i < s.length by omega)) ?_
  refine aq.az (v := !(a.aU[i].own&&zz c zw a.aU[i])) ?_ ?_
  ·rw [Ja A hi]
   cases a.aU[i].own<;>cases zz c zw a.aU[i]<;>rfl
  refine aq.ite (fun h=>aq.some ⟨-2,?_,rfl⟩) (fun h => ?_)
  ·unfold qb
   have:(a.aU[i].own&&zz c zw a.aU[i])=false:=by
    cases hx:(a.aU[i].own&&zz c zw a.aU[i]) with
    | false=>rfl
    | true=>rw [hx] at h;cases h
   rw [this];rfl
  ·have hos:(a.aU[i].own&&zz c zw a.aU[i])=true:=by
    cases hx:(a.aU[i].own&&zz c zw a.aU[i]) with
    | true=>rfl
    | false=>rw [hx] at h;cases h
   have eK:qb c zw a.aU[i]=((T.map (·.step)).find? fun m=>zz c zw (target c a.aU[i] m)).getD (-2):=by
    unfold qb;rw [hos,hst];rfl
   refine aq.az (zy hT) ?_
   refine aq.bind (P:=fun o:Unit ⊕ List Int=>(o=.inl ()∧∀ m∈T,zz c zw (target c a.aU[i] m.step)=false)∨∃ x,x=qb c zw a.aU[i]∧o=.inr (s.set i x))
    (aq.dP (fun k _=>∀ (j:Nat) (hj:j < T.length),j < k→zz c zw (target c a.aU[i] T[j].step)=false) (by omega) (fun j _ hj=>by omega) (fun k _ hk hk2 => ?_) (fun _ h=>.inl ⟨rfl,fun m hm=>by obtain ⟨j,hj,rfl⟩:=ug hm;exact h j hj hj⟩)) ?_
   ·refine aq.az (zy (ua hk)) ?_
    refine aq.az (Mi A hi hT (uc hk)) ?_
    refine aq.ite (fun EW => ?_) (fun EW=>aq.some fun j hj hjk => ?_)
    ·refine aq.az (zM hi) ?_
     refine aq.az (um (show i < s.length by omega)) ?_
     refine aq.some (.inr ⟨T[k].step,?_,by rw [Ud]⟩)
     rw [eK]
     have hf:(T.map (·.step)).find? (fun m=>zz c zw (target c a.aU[i] m))=some T[k].step:=by
      have Di:T.find? ((fun m=>zz c zw (target c a.aU[i] m))∘fun x=>x.step)=some T[k]:=by
       refine uL.2 ⟨EW,k,hk,rfl,fun j hj => ?_⟩
       have:=hk2 j (by omega) hj
       simp only [Function.comp_apply,this,Bool.not_false]
      rw [List.find?_map,Di];rfl
     rw [hf];rfl
    ·by_cases e:j=k
     ·subst e;exact EW
     ·exact hk2 j hj (by omega)
   ·rintro _ (⟨rfl,h⟩ | ⟨x,h1,rfl⟩)
    ·refine aq.some ⟨-2,?_,rfl⟩
     rw [eK,u0.2 (fun m hm => ?_)]
     ·rfl
     ·obtain ⟨t,ht,rfl⟩:=ud.1 hm
      simp [h t ht]
    ·exact aq.some ⟨x,h1,rfl⟩
 ·have e:s=a.aU.map (qb c zw):=uK fun j=>by
   by_cases h:j < a.aU.length
   ·exact hs.2 j h
   ·rw [uj (by omega),uj (by simp;omega)]
  rw [e]
 ·rintro _ rfl
  simp only [uw]
  refine aq.az (wn (by simp)) ?_
  exact aq.some rfl
end
end
section
def pp (P:List Int) (p:aH):aH:={state:=rs P p.state,own:=p.own}
section
variable {c:ax} {ρ:Nat→Nat}
abbrev di (c:ax) (ρ:Nat→Nat) (r:Nat):List Int:=wu ρ r c.ay.length
theorem zjp (ρ:Nat→Nat) (r n:Nat):(wu ρ r n).Pairwise (· < ·):=by
 unfold wu
 rw [List.pairwise_map]
 exact (List.Pairwise.sublist uQ List.pairwise_lt_range).imp fun h=>by omega
theorem kP (hc:c.Ok) (hv:(zS c).1=0) (R:cE c ρ) (r:Nat):∃ ks,bu c (di c ρ r) ks:=by
 have ho:=hc.off.lt (by omega:0 < 8)
 have sm:=qy ho hv
 obtain ⟨ks,hks⟩:=Qi (g:=JL c (di c ρ r)) (l:=di c ρ r) (fun x hx=>by
  obtain ⟨x0,x1,x2⟩:=xH.1 hx
  have hk:=ua (show x.toNat < c.ay.length by omega)
  obtain ⟨st,hst⟩:=Qi (g:=yh (di c ρ r)) (l:=c.ay[x.toNat].start) (fun y hy=>by
   have hcd:=sm.cond _ _ hk y hy
   have hm:y.clause∈di c ρ r:=xH.2 ⟨by omega,by omega,by rw [←x2];exact (R.start _ _ hk y hy).symm⟩
   unfold yh jH
   rw [if_pos hm]
   exact ⟨_,rfl⟩)
  refine ⟨({c.ay[x.toNat] with start:=st}:aO),?_⟩
  unfold JL
  have e:ze c.ay x=some c.ay[x.toNat]:=(qW x0 (by omega)).2
  rw [e]
  simp only [aV,hst,uV])
 exact ⟨ks,hv,It (fun x hx=>by obtain ⟨x0,x1,_⟩:=xH.1 hx;omega) (zjp ρ r _),hks⟩
theorem Mj (hc:c.Ok) {s:aG} (hv:VS c s) {i:Nat} {a:aZ} (ha:c.aK[i]?=some a) (h1:a.kind=1) {P:List Int} {ks:List aO} (h:bu c P ks) (hd:s.day < c.aX) (hn:∀ x∈P,∀ k,c.ay[x.toNat]?=some k→(i:Int) ∉ jV k):rs P (zI c s i)=rs P s:=by
 have ho:=hc.off.lt (by omega:0 < 8)
 have hia:=(ub.1 ha).1
 have Ad:=h.pos
 have Ay:=WF hc h hv
 rw [←wq hc h hv (by omega) (by omega) hd]
 obtain ⟨_,_,_,ap⟩:=ja (h.th hc) Ay (a:=(i:Int)) (by omega) (by show (i:Int) < c.aK.length;omega) hd
 rcases ap i a rfl ha with ⟨g1,_⟩ | ⟨_,g2,g3,g4,g5⟩
 ·exact absurd h1 g1
 ·have hk1:(a.kind == 1)=true:=beq_iff_eq.2 h1
  have gR:(a.kind == 3)=false:=beq_eq_false_iff_ne.2 (by omega)
  have hno:∀ (p:Nat) (k:aO),(cp c ks).ay[p]?=some k→(i:Int)≠k.act∧(i:Int)≠k.bg∧(i:Int)≠k.resume:=by
   intro p k' hk'
   have hk':ks[p]?=some k':=hk'
   have hp:p < P.length:=by rw [←Ad.len];exact (ub.1 hk').1
   obtain ⟨x,k,st,e1,e2,e3,e4⟩:=Ad.at_ p hp
   rw [e4] at hk'
   cases hk'
   have:=hn (x:Int) (uA e1) k (by simpa using e2)
   have kv:=wE ho hv.cv e2
   unfold jV at this
   by_cases hps:k.bg = -1
   ·rw [if_pos hps] at this
    have hr:k.resume = -1:=by
     rcases kv.bg with g | g
     ·exact g.2
     ·exfalso
      have:=g.1
      rw [hps] at this
      simp [yI,ze] at this
    simp only [ul] at this
    exact ⟨this,by simp only;omega,by simp only;omega⟩
   ·rw [if_neg hps] at this
    simp only [uY,List.not_mem_nil,or_false,not_or] at this
    exact this
  have em:∀ (ms:List aj) (F:aO→aj→aj),(∀ (p:Nat) (k:aO) (m:aj),(cp c ks).ay[p]?=some k→F k m=m)→ms.mapIdx (fk (cp c ks) F)=ms:=by
   intro ms F hF
   refine uK fun p => ?_
   rw [List.getElem?_mapIdx]
   cases hp:ms[p]? with
   | none=>rfl
   | some m=>
    simp only [uV,fk]
    cases hk:(cp c ks).ay[p]? with
    | none=>rfl
    | some k=>simp only [hF p k m hk]
  have e3:iL (cp c ks) i a (rs P s).aE (rs P s).aI=(rs P s).aI:=by
   unfold iL eG eY
   rw [gR,b9,em _ _ fun p k m hk => ?_,em _ _ fun p k m hk => ?_]
   ·obtain ⟨n1,n2,n3⟩:=hno p k hk
    unfold yg
    rw [beq_eq_false_iff_ne.2 n2,beq_eq_false_iff_ne.2 n3]
    cases jc m<;>rfl
   ·obtain ⟨n1,n2,n3⟩:=hno p k hk
    unfold ZV
    rw [beq_eq_false_iff_ne.2 (Ne.symm n1)]
    cases jc m<;>rfl
  refine YM g2 (g3.trans (by unfold hs3;rw [hk1];rfl)) (g4.trans (by unfold mg;rw [hk1];rfl)) ?_
  rw [e3] at g5
  exact g5.same Ay.Ct
theorem Mk (hc:c.Ok) (R:cE c ρ) {s:aG} (hv:VS c s) {i:Nat} (hi:i < c.aK.length) (hd:s.day < c.aX) {r r':Nat} (hr:r < c.ay.length) (hr':r' < c.ay.length) (er:ρ r=r) (pq:ρ r'=r') (hne:r≠r') (h:rs (di c ρ r) (zI c s i)≠rs (di c ρ r) s):rs (di c ρ r') (zI c s i)=rs (di c ρ r') s:=by
 have ha:=ua hi
 by_cases h1:c.aK[i].kind=1
 ·obtain ⟨ks,hk⟩:=kP hc hv.cv R r
  obtain ⟨ks',hk'⟩:=kP hc hv.cv R r'
  refine Mj hc hv ha h1 hk' hd fun x hx k Aa hin => ?_
  refine h (Mj hc hv ha h1 hk hd fun y hy k2 hky BE => ?_)
  obtain ⟨_,_,x2⟩:=xH.1 hx
  obtain ⟨_,_,y2⟩:=xH.1 hy
  exact hne (by rw [←x2,←y2];exact R.nQ _ _ _ _ _ hky Aa BE hin)
 ·exfalso
  refine hne ?_
  rw [←er,←pq]
  refine R.whole ?_ r r' hr hr'
  unfold wv
  rw [List.any_eq_true]
  exact ⟨_,uc hi,by simp [h1]⟩
theorem zjq (hc:c.Ok) (R:cE c ρ) {s:aG} (hv:VS c s) {i:Nat} (hi:i < c.aK.length) (hd:s.day < c.aX) (h0:0 < c.ay.length) (h:∀ r,r < c.ay.length→ρ r=r→rs (di c ρ r) (zI c s i)=rs (di c ρ r) s):zI c s i=s:=by
 obtain ⟨_,nT,_,_⟩:=ja hc hv (a:=(i:Int)) (by omega) (by omega) hd
 have hroot:=fun x (hx:x < c.ay.length)=>h (ρ x) (by have:=R.fn.le x hx;omega) (R.fn.idem x hx)
 have EX:=hroot 0 h0
 have e1:(zI c s i).day=s.day:=by have g:=congrArg aG.day EX;exact g
 have e2:(zI c s i).aE=s.aE:=by have g:=congrArg aG.aE EX;exact g
 have e3:(zI c s i).used=s.used:=by have g:=congrArg aG.used EX;exact g
 refine YM e1 e2 e3 ?_
 have l1:=hv.lm
 have l2:=nT.lm
 refine uK fun x => ?_
 by_cases hx:x < c.ay.length
 ·have hm:(x:Int)∈di c ρ (ρ x):=xH.2 ⟨by omega,by omega,by simp⟩
  obtain ⟨p,hp,e⟩:=ug hm
  have hp':(di c ρ (ρ x))[p]?=some (x:Int):=by rw [ua hp,e]
  have g:=congrArg aG.aI (hroot x hx)
  have g:fK (di c ρ (ρ x)) (zI c s i).aI=fK (di c ρ (ρ x)) s.aI:=g
  have g':(fK (di c ρ (ρ x)) (zI c s i).aI)[p]?=(fK (di c ρ (ρ x)) s.aI)[p]?:=by rw [g]
  rwa [jX hp' (by omega),jX hp' (by omega)] at g'
 ·rw [uj (by omega),uj (by omega)]
theorem X5 {s:aG} (hv:VS c s) {P:List Int} {ks:List aO} (h:bu c P ks) {zw:Int}:qF (cp c ks) (rs P s) zw=true↔∃ (i:Nat) (k:aO) (m:aj),(i:Int)∈P∧c.ay[i]?=some k∧s.aI[i]?=some m∧k.final=true∧m.aR=4∧m.bz=zw:=by
 have Ad:=h.pos
 have Bv:=hv.lm
 rw [Qv]
 constructor
 ·rintro ⟨p,k',m,hk',hm,g⟩
  have hk':ks[p]?=some k':=hk'
  have hp:p < P.length:=by rw [←Ad.len];exact (ub.1 hk').1
  obtain ⟨x,k,st,e1,e2,e3,e4⟩:=Ad.at_ p hp
  rw [e4] at hk'
  cases hk'
  have hm:(fK P s.aI)[p]?=some m:=hm
  rw [jX e1 (by have:=(ub.1 e2).1;omega)] at hm
  exact ⟨x,k,m,uA e1,e2,hm,g⟩
 ·rintro ⟨x,k,m,hx,hk,hm,g⟩
  obtain ⟨p,hp,e⟩:=ug hx
  obtain ⟨x',k2,st,e1,e2,e3,e4⟩:=Ad.at_ p hp
  rw [ua hp,e] at e1
  have:x=x':=by have:=Option.some.inj e1;omega
  subst this
  rw [hk] at e2
  cases e2
  refine ⟨p,_,m,e4,?_,g⟩
  show (fK P s.aI)[p]?=some m
  rw [jX (by rw [ua hp,e]) (ub.1 hm).1]
  exact hm
theorem zfx (hc:c.Ok) (R:cE c ρ) {s:aG} (hv:VS c s) {zw:Int}:qF c s zw=true↔∃ r ks,r < c.ay.length∧ρ r=r∧bu c (di c ρ r) ks∧qF (cp c ks) (rs (di c ρ r) s) zw=true:=by
 constructor
 ·intro h
  obtain ⟨x,k,m,hk,hm,g⟩:=Qv.1 h
  have hx:=(ub.1 hk).1
  obtain ⟨ks,hks⟩:=kP hc hv.cv R (ρ x)
  exact ⟨ρ x,ks,by have:=R.fn.le x hx;omega,R.fn.idem x hx,hks,(X5 hv hks).2 ⟨x,k,m,xH.2 ⟨by omega,by omega,by simp⟩,hk,hm,g⟩⟩
 ·rintro ⟨r,ks,_,_,hks,h⟩
  obtain ⟨x,k,m,_,hk,hm,g⟩:=(X5 hv hks).1 h
  exact Qv.2 ⟨x,k,m,hk,hm,g⟩
theorem vL {a b:aG}:xZ a b=false↔a≠b:=by
 rw [←uE,vJ]
theorem yN (hc:c.Ok) {P:List Int} {ks:List aO} (h:bu c P ks) {zw:Int} {p:aH} (hv:VS c p.state) {m:Int} (hm:m∈zq (cp c ks) zw (pp P p)):m∈zq c zw p∧target (cp c ks) (pp P p) m=pp P (target c p m):=by
 rcases zO.1 hm with ⟨h1,rfl⟩ | ⟨h1,h2,rfl⟩ | ⟨h1,i,h2,h3,rfl⟩
 ·exact ⟨zO.2 (.inl ⟨h1,rfl⟩),by simp [target,pp]⟩
 ·refine ⟨zO.2 (.inr (.inl ⟨h1,h2,rfl⟩)),?_⟩
  have h2':(0:Int) < c.aK.length∨True:=.inr trivial
  have e:=wq hc h hv (a := -1) (by omega) (by omega) h1
  simp only [target,pp]
  rw [if_neg (by omega),if_neg (by omega),e]
 ·have h2:i < c.aK.length:=h2
  have e:=wq hc h hv (a:=(i:Int)) (by omega) (by omega) h1
  refine ⟨zO.2 (.inr (.inr ⟨h1,i,h2,?_,rfl⟩)),?_⟩
  ·have ha:=ua h2
   have ha':(cp c ks).aK[i]?=some c.aK[i]:=ha
   simp only [iZ,ha',ui,uh,vL] at h3
   simp only [iZ,ha,ui,uh,vL]
   refine ⟨h3.1,fun e2=>h3.2 ?_⟩
   show zI (cp c ks) (rs P p.state) i=rs P p.state
   rw [e,e2]
  ·simp only [target,pp]
   rw [if_neg (by omega),if_neg (by omega),e]
theorem WJ (hc:c.Ok) {P:List Int} {ks:List aO} (h:bu c P ks) {zw:Int} {p:aH} (hv:VS c p.state) {m:Int} (hm:m∈zq c zw p):(m∈zq (cp c ks) zw (pp P p)∧target (cp c ks) (pp P p) m=pp P (target c p m))∨((∃ i:Nat,m=(i:Int)∧i < c.aK.length)∧p.state.day < c.aX∧rs P (zI c p.state m)=rs P p.state):=by
 rcases zO.1 hm with ⟨h1,rfl⟩ | ⟨h1,h2,rfl⟩ | ⟨h1,i,h2,h3,rfl⟩
 ·exact .inl (have g:(-2:Int)∈zq (cp c ks) zw (pp P p):=zO.2 (.inl ⟨h1,rfl⟩);⟨g,(yN hc h hv g).2⟩)
 ·exact .inl (have g:(-1:Int)∈zq (cp c ks) zw (pp P p):=zO.2 (.inr (.inl ⟨h1,h2,rfl⟩));⟨g,(yN hc h hv g).2⟩)
 ·have e:=wq hc h hv (a:=(i:Int)) (by omega) (by omega) h1
  by_cases hs:rs P (zI c p.state i)=rs P p.state
  ·exact .inr ⟨⟨i,rfl,h2⟩,h1,hs⟩
  ·left
   have ha:=ua h2
   have ha':(cp c ks).aK[i]?=some c.aK[i]:=ha
   have g:(i:Int)∈zq (cp c ks) zw (pp P p):=by
    refine zO.2 (.inr (.inr ⟨h1,i,h2,?_,rfl⟩))
    simp only [iZ,ha,ui,uh,vL] at h3
    simp only [iZ,ha',ui,uh,vL]
    refine ⟨h3.1,fun e2=>hs ?_⟩
    rw [←e];exact e2
   exact ⟨g,(yN hc h hv g).2⟩
theorem wH {P:List Int} {p:aH} {i:Nat} (h:rs P (zI c p.state i)=rs P p.state):pp P (target c p (i:Int))={state:=rs P p.state,own:=true}:=by
 simp only [target,pp]
 rw [if_neg (by omega)]
 simp only [h]
theorem j8 (hc:c.Ok) {zw:Int} {p:aH} (hv:VS c p.state) {m:Int} (hm:m∈zq c zw p):VS c (target c p m).state:=by
 rcases zfv hm with ⟨rfl,_⟩ | ⟨h1,h2,h3⟩
 ·rw [wT];exact hv
 ·rw [xe c p h1];exact (ja hc hv h1 h2 h3).2.1
theorem Vy (hc:c.Ok) {zw:Int} (p:aH) (hv:VS c p.state) (hd:p.state.day < c.aX) (nO:0≤zw) (ho:p.own=true) {i:Nat} (hi:i < c.aK.length) (hm:(i:Int)∈zq c zw p):yL c (zI c p.state i) < yL c p.state:=by
 have ha:=ua hi
 obtain ⟨_,nT,_,ap⟩:=ja hc hv (a:=(i:Int)) (by omega) (by omega) hd
 rcases zO.1 hm with ⟨_,h2⟩ | ⟨_,_,h2⟩ | ⟨_,j,hj,h3,h2⟩
 ·omega
 ·omega
 ·have:i=j:=by omega
  subst this
  simp only [iZ,ha,ui,uh,vL,beq_iff_eq,ho] at h3
  refine zje hc hv nT ha (fun hr => ?_) (ap i _ rfl ha) h3.2
  have h4:=h3.1
  simp only [jJ,hr] at h4
  have h4:(-1:Int)=zw:=by simpa using h4
  omega
theorem zhM {zw:Int} {s:aG} (h:qI c zw {state:=s,own:=false}):qI c zw {state:=s,own:=true}:=
 (ZY rfl).2 ⟨vK (q:={state:=s,own:=false}) h,-2,zO.2 (.inl ⟨rfl,rfl⟩),h⟩
theorem JS (hc:c.Ok) (hcv:(zS c).1=0) (R:cE c ρ) {zw:Int}:∀ p:aH,(VS c p.state∧∀ r ks,r < c.ay.length→ρ r=r→bu c (di c ρ r) ks→qI (cp c ks) zw (pp (di c ρ r) p))→qI c zw p:=by
 refine W7 _ ?_ ?_ ?_
 ·rintro p ⟨hv,hs⟩
  rw [←uE]
  intro h
  obtain ⟨r,ks,hr,er,hks,h2⟩:=(zfx hc R hv).1 h
  have:=vK (hs r ks hr er hks)
  have:qF (cp c ks) (rs (di c ρ r) p.state) zw=false:=this
  rw [h2] at this;cases this
 ·rintro p ⟨hv,hs⟩ ho
  by_cases hall:∀ r ks,r < c.ay.length→ρ r=r→bu c (di c ρ r) ks→qI (cp c ks) zw {state:=rs (di c ρ r) p.state,own:=false}
  ·refine ⟨-2,zO.2 (.inl ⟨ho,rfl⟩),?_,fun r ks hr er hks => ?_⟩
   ·rw [wT];exact hv
   ·have:=hall r ks hr er hks
    simpa [target,pp] using this
  ·simp only [Classical.not_forall] at hall
   obtain ⟨r,ks,hr,er,hks,hno⟩:=hall
   obtain ⟨_,m,hm,mY⟩:=(ZY (show (pp (di c ρ r) p).own=true from ho)).1 (hs r ks hr er hks)
   obtain ⟨g1,g2⟩:=yN hc hks hv hm
   refine ⟨m,g1,j8 hc hv g1,fun r' ks' hr' pq iC => ?_⟩
   rcases zO.1 hm with ⟨_,rfl⟩ | ⟨_,h2,rfl⟩ | ⟨h1,i,h2,h3,rfl⟩
   ·exact absurd mY hno
   ·have:p.own=false:=h2
    rw [ho] at this;cases this
   ·by_cases e:r=r'
    ·subst e
     have:ks=ks':=by
      have:=hks.sel.symm.trans iC.sel
      exact Option.some.inj this
     subst this
     rw [←g2];exact mY
    ·have h2:i < c.aK.length:=h2
     have pU:rs (di c ρ r) (zI c p.state i)≠rs (di c ρ r) p.state:=by
      rw [←wq hc hks hv (by omega) (by omega) h1]
      have ha:=ua h2
      have ha':(cp c ks).aK[i]?=some c.aK[i]:=ha
      simp only [iZ,ha',ui,uh,vL] at h3
      exact h3.2
     rw [wH (Mk hc R hv h2 h1 hr hr' er pq e pU)]
     have:=hs r' ks' hr' pq iC
     simp only [pp,ho] at this
     exact this
 ·rintro p ⟨hv,hs⟩ ho m hm
  refine ⟨j8 hc hv hm,fun r ks hr er hks => ?_⟩
  have Ae:=hs r ks hr er hks
  rcases WJ hc hks hv hm with ⟨g1,g2⟩ | ⟨⟨i,rfl,hi⟩,_,g⟩
  ·rw [←g2]
   exact ((Vx (show (pp (di c ρ r) p).own=false from ho)).1 Ae).2 m g1
  ·rw [wH g]
   simp only [pp,ho] at Ae
   exact zhM Ae
theorem Qw (hc:c.Ok) {P:List Int} {ks:List aO} (h:bu c P ks) {zw:Int} (nO:0≤zw):∀ q:aH,(∃ p,VS c p.state∧qI c zw p∧pp P p=q)→qI (cp c ks) zw q:=by
 refine W7 _ ?_ ?_ ?_
 ·rintro q ⟨p,hv,hs,rfl⟩
  rw [←uE]
  intro hl
  obtain ⟨x,k,m,_,hk,hm,g⟩:=(X5 hv h).1 hl
  have:=vK hs
  rw [Qv.2 ⟨x,k,m,hk,hm,g⟩] at this
  cases this
 ·rintro q ⟨p,hv,hs,rfl⟩ ho
  have key:∀ (n:Nat) (p':aH),yL c p'.state≤n→VS c p'.state→qI c zw p'→p'.own=true→pp P p'=pp P p→∃ m∈zq (cp c ks) zw (pp P p),∃ p2,VS c p2.state∧qI c zw p2∧pp P p2=target (cp c ks) (pp P p) m:=by
   intro n
   induction n with
   | zero=>
    intro p' hn ny hs' ho' e
    obtain ⟨_,m,hm,mY⟩:=(ZY ho').1 hs'
    rw [←e]
    rcases WJ hc h ny hm with ⟨g1,g2⟩ | ⟨⟨i,rfl,hi⟩,hd,g⟩
    ·exact ⟨m,g1,_,j8 hc ny hm,mY,g2.symm⟩
    ·exfalso
     have hl:=Vy hc p' ny hd nO ho' hi hm
     omega
   | succ n ih=>
    intro p' hn ny hs' ho' e
    obtain ⟨_,m,hm,mY⟩:=(ZY ho').1 hs'
    rcases WJ hc h ny hm with ⟨g1,g2⟩ | ⟨⟨i,rfl,hi⟩,hd,g⟩
    ·rw [←e]
     exact ⟨m,g1,_,j8 hc ny hm,mY,g2.symm⟩
    ·have hl:=Vy hc p' ny hd nO ho' hi hm
     refine ih (target c p' (i:Int)) ?_ (j8 hc ny hm) mY ?_ ?_
     ·rw [xe c p' (by omega)];simp only;omega
     ·rw [xe c p' (by omega)]
     ·rw [wH g,←e]
      simp only [pp,ho']
  obtain ⟨m,hm,p2,g⟩:=key _ p (uM _) hv hs ho rfl
  exact ⟨m,hm,p2,g⟩
 ·rintro q ⟨p,hv,hs,rfl⟩ ho m hm
  obtain ⟨g1,g2⟩:=yN hc h hv hm
  exact ⟨target c p m,j8 hc hv g1,((Vx (show p.own=false from ho)).1 hs).2 m g1,g2.symm⟩
end
end
section
section
variable {c:ax} {ρ:Nat→Nat} {zw:Int} {p:aH}
theorem X6 (hc:c.Ok) {s:aG} (hv:VS c s) {P:List Int} (hr:∀ x∈P,0≤x∧x < c.ay.length) (hl:P.length≤400):xp P s=some (rs P s):=by
 have hf:=hv.s9 hc
 have Bv:=hv.lm
 unfold xp
 rw [ju (by omega),ju (by omega)]
 simp only [aV]
 rw [RU (st:=fun l=>l) P (fun i=>s.aI[i.toNat]?.getD default) (by omega) (fun i hi=>by
  obtain ⟨x0,x1⟩:=hr _ (uc hi)
  obtain ⟨h1,h2⟩:=qW (l:=s.aI) (n:=P[i]) x0 (by omega)
  simp only [zN,ua hi,aV,h2]
  rw [xT (by simp;omega)]
  simp only [aV,ua h1,Option.getD_some]) rfl]
 rfl
theorem zjr (hc:c.Ok) {P:List Int} {ks:List aO} (h:bu c P ks) (hv:VS c p.state) {q:aH} (hq:mX (cp c ks) zw (pp P p) q):∃ x,mX c zw p x∧VS c x.state∧pp P x=q:=by
 induction hq with
 | base=>exact ⟨p,.base,hv,rfl⟩
 | step _ hm ih=>
  obtain ⟨x,h1,h2,rfl⟩:=ih
  obtain ⟨g1,g2⟩:=yN hc h h2 hm
  exact ⟨_,.step h1 g1,j8 hc h2 g1,g2.symm⟩
theorem zhN (hc:c.Ok) {P:List Int} {ks:List aO} (h:bu c P ks) (hv:VS c p.state) {a:bT} (A:bD c zw p a):¬ BA (cp c ks) zw (pp P p):=by
 refine Mh (L:=a.aU.map (pp P)) (by rw [ur];exact A.F.inv.len) fun q hq => ?_
 obtain ⟨x,h1,_,rfl⟩:=zjr hc h hv hq
 exact ud.2 ⟨x,A.F.rO (uA A.F.first) h1,rfl⟩
noncomputable def j9 (c:ax) (zw:Int) (p:aH) (P:List Int):Bool:=zz (vj c P).1 zw (pp P p)
theorem yO {P:List Int} {ks:List aO} (h:bu c P ks):j9 c zw p P=zz (cp c ks) zw (pp P p):=by
 unfold j9;rw [h.eq]
theorem JT {i:Nat} (hi:i < (qa ρ c.ay.length).length):∃ r,r < c.ay.length∧ρ r=r∧(qa ρ c.ay.length)[i]=di c ρ r:=by
 unfold qa at hi ⊢
 rw [ur] at hi
 rw [List.getElem_map]
 have:=yi.1 (uc hi)
 exact ⟨_,this.1,this.2,rfl⟩
theorem Ml:(qa ρ c.ay.length).length≤c.ay.length:=by
 unfold qa j7
 rw [ur]
 have:=uu (fun x=>ρ x == x) (uk c.ay.length)
 simpa using this
theorem Mm (r:Nat):(di c ρ r).length≤c.ay.length:=by
 show (wu ρ r c.ay.length).length≤_
 unfold wu
 rw [ur]
 have:=uu (fun x=>ρ x == r) (uk c.ay.length)
 simpa using this
theorem Mn (r:Nat):∀ x∈di c ρ r,0≤x∧x < c.ay.length:=fun x hx=>by
 obtain ⟨h1,h2,_⟩:=xH.1 hx;exact ⟨h1,h2⟩
theorem Mo (hc:c.Ok) {P:List Int} {ks:List aO} (hl:P.length≤400) (h:bu c P ks):kL c P=some (cp c ks,0):=by
 rw [zm3 c P (hc.off.lt (by omega)) (fun k hk=>(hc.ay.2 k hk).start.lt (by omega)) (by omega),h.eq]
theorem Mp (hc:c.Ok) (hv:(zS c).1=0):∃ ρ,cE c ρ∧qj c=some (qa ρ c.ay.length):=
 zcR c (hc.off.lt (by omega)) (fun k hk=>(hc.ay.2 k hk).start.lt (by omega)) hv
theorem Mq (hc:c.Ok) (cU:jK c zw p.state=true) {P:List Int} {ks:List aO} (h:bu c P ks) :
  aq (qD (cp c ks) zw (pp P p)) (fun r=>(r.2=0∧bD (cp c ks) zw (pp P p) r.1)∨(r.2=3∧¬ ∃ a,bD c zw p a)):=by
 obtain ⟨h0,h1,hv⟩:=qX.1 cU
 have oP:jK (cp c ks) zw (pp P p).state=true:=qX.2 ⟨h0,h1,WF hc h hv⟩
 refine aq.mono (Vw (h.th hc) oP) ?_
 rintro r (⟨g1,g2,g3⟩ | ⟨g1,g2⟩)
 ·exact .inl ⟨g1,h0,h1,g2,g3⟩
 ·exact .inr ⟨g1,fun ⟨a,A⟩=>zhN hc h hv A g2⟩
theorem Mr {d:ax} {q:aH} {a:bT} (A:bD d zw q a):∃ hp:0 < a.aU.length,a.aU[0]=q:=by
 have h:=A.F.first
 have hp:=(ub.1 h).1
 refine ⟨hp,?_⟩
 rw [ua hp] at h
 exact Option.some.inj h
theorem YW {d:ax} (hd:d.Ok) {q:aH} {a:bT} (A:bD d zw q a):ze (a.aU.map (zz d zw)) 0=some (zz d zw q):=by
 obtain ⟨hp,e⟩:=Mr A
 have:=Ja A hp
 rw [e] at this
 exact this
theorem zdy {α:Type} (f:α→Bool) (l:List α) {i:Nat} (hi:i < l.length):(l.take (i+1)).filter f=(l.take i).filter f++(bif f l[i] then [l[i]] else []):=by
 rw [ue hi,uF]
 cases h:f l[i]<;>simp [h]
def zk5 (c:ax) (ρ:Nat→Nat) (zw:Int) (p:aH):Prop:=∀ r ks,r < c.ay.length→ρ r=r→bu c (di c ρ r) ks→∃ a,bD (cp c ks) zw (pp (di c ρ r) p) a∧qD (cp c ks) zw (pp (di c ρ r) p)=some (a,0)
theorem zjs (hc:c.Ok) (cU:jK c zw p.state=true) (R:cE c ρ) (hC:qj c=some (qa ρ c.ay.length)) :
  aq (ye c zw p) (fun r=>(r.2=3∧r.1=[]∧¬ ∃ a,bD c zw p a)∨(r.2=0∧r.1=(qa ρ c.ay.length).filter (fun P=>!j9 c zw p P)∧zk5 c ρ zw p)):=by
 obtain ⟨h0,h1,hv⟩:=qX.1 cU
 have sm:=qy (hc.off.lt (by omega)) hv.cv
 have dY:=sm.ay
 have oP:=Ml (c:=c) (ρ:=ρ)
 have nK:=fun i (hi:i < (qa ρ c.ay.length).length)=>JT (c:=c) (ρ:=ρ) hi
 generalize hL:qa ρ c.ay.length=L at hC oP nK ⊢
 unfold ye
 refine aq.bind (P:=fun r:Int×List (List Int)=>(r.1=3∧¬ ∃ a,bD c zw p a)∨(r.1=0∧r.2=L.filter (fun P=>!j9 c zw p P)∧∀ j (hj:j < L.length) ks,bu c L[j] ks→∃ a,bD (cp c ks) zw (pp L[j] p) a∧qD (cp c ks) zw (pp L[j] p)=some (a,0))) ?_ ?_
 ·unfold QY
  refine aq.az (v:=false) ?_ ?_
  ·rw [decide_eq_false (show ¬ zw < 0 by omega),decide_eq_false (show ¬ c.aW≤zw by omega),vp c _ hc,ZS hv];rfl
  refine aq.ite (fun h=>by cases h) (fun _ => ?_)
  refine aq.bind (P:=fun r:Int×List (List Int)=>(r.1=3∧¬ ∃ a,bD c zw p a)∨(r.1=0∧r.2=L.filter (fun P=>!j9 c zw p P)∧∀ j (hj:j < L.length) ks,bu c L[j] ks→∃ a,bD (cp c ks) zw (pp L[j] p) a∧qD (cp c ks) zw (pp L[j] p)=some (a,0))) ?_ (fun v hv=>aq.some hv)
  refine aq.az hC ?_
  refine aq.bind (P:=fun o:(Int×List (List Int)) ⊕ (Int×List (List Int))=>match o with
   | .inl s=>s.1=0∧s.2=L.filter (fun P=>!j9 c zw p P)∧∀ j (hj:j < L.length) ks,bu c L[j] ks→∃ a,bD (cp c ks) zw (pp L[j] p) a∧qD (cp c ks) zw (pp L[j] p)=some (a,0)
   | .inr s=>s.1=3∧¬ ∃ a,bD c zw p a) ?_ ?_
  ·refine aq.dP (fun i s=>s.1=0∧s.2=(L.take i).filter (fun P=>!j9 c zw p P)∧∀ j (hj:j < L.length) ks,j < i→bu c L[j] ks→∃ a,bD (cp c ks) zw (pp L[j] p) a∧qD (cp c ks) zw (pp L[j] p)=some (a,0)) (by omega) ⟨rfl,by simp,fun j hj ks h=>by omega⟩ ?_ (fun s hs=>⟨hs.1,by rw [hs.2.1,uD],fun j hj ks h=>hs.2.2 j hj ks hj h⟩)
   rintro i ⟨e,l⟩ hi ⟨rfl,hl,har⟩
   simp only at hl
   have hlen:l.length≤400:=by
    rw [hl]
    have h1:=uu (fun P=>!j9 c zw p P) (L.take i)
    rw [u5] at h1
    omega
   obtain ⟨r,hr,er,ep⟩:=nK i hi
   obtain ⟨ks,hks⟩:=kP hc hv.cv R r
   rw [←ep] at hks
   have BF:L[i].length≤400:=by rw [ep];have:=Mm (c:=c) (ρ:=ρ) r;omega
   have EY:∀ x∈L[i],0≤x∧x < c.ay.length:=by rw [ep];exact Mn r
   refine aq.az (zy (ua hi)) ?_
   refine aq.az (Mo hc BF hks) ?_
   refine aq.bind (P:=fun v:Int×List (List Int)=>(v.1=3∧¬ ∃ a,bD c zw p a)∨(v.1=0∧v.2=l++(bif !j9 c zw p L[i] then [L[i]] else [])∧∃ a,bD (cp c ks) zw (pp L[i] p) a∧qD (cp c ks) zw (pp L[i] p)=some (a,0))) ?_ ?_
   ·refine aq.ite (fun _ => ?_) (fun h=>by cases h)
    refine aq.az (X6 hc hv EY BF) ?_
    refine aq.bind (P:=fun v:Int×List (List Int)=>(v.1=3∧¬ ∃ a,bD c zw p a)∨(v.1=0∧v.2=l++(bif !j9 c zw p L[i] then [L[i]] else [])∧∃ a,bD (cp c ks) zw (pp L[i] p) a∧qD (cp c ks) zw (pp L[i] p)=some (a,0))) ?_ (fun v hv=>aq.some hv)
    unfold QX
    obtain ⟨⟨a,e⟩,hf,cy⟩:=Mq hc cU hks
    refine aq.az hf ?_
    rcases cy with ⟨g1,A⟩ | ⟨g1,g2⟩
    ·simp only at g1 A
     subst g1
     refine aq.bind (P:=fun v:List (List Int)=>v=l++(bif !j9 c zw p L[i] then [L[i]] else [])) ?_ (fun v hv=>aq.some (.inr ⟨rfl,hv,a,A,hf⟩))
     refine aq.az (v := !j9 c zw p L[i]) ?_ ?_
     ·rw [JR (hks.th hc) A]
      simp only [aV,YW (hks.th hc) A,yO hks]
      rfl
     cases hb:(!j9 c zw p L[i]) with
     | true=>
      simp only [bW]
      rw [xT (by simp;omega)]
      exact aq.some rfl
     | false=>exact aq.some (by simp)
    ·simp only at g1
     subst g1
     exact aq.some (.inl ⟨rfl,g2⟩)
   ·rintro ⟨e,l2⟩ (⟨g1,g2⟩ | ⟨g1,g2,a,A,hf⟩)
    ·simp only at g1
     subst g1
     exact aq.some ⟨rfl,g2⟩
    ·simp only at g1 g2
     subst g1
     refine aq.some ⟨rfl,?_,fun j hj ks' hji iC => ?_⟩
     ·show l2=_
      rw [g2,hl,zdy _ _ hi]
     ·rcases Ue j i with h | h
      ·exact har j hj ks' h iC
      ·obtain rfl:j=i:=by omega
       have:ks=ks':=Option.some.inj (hks.sel.symm.trans iC.sel)
       subst this
       exact ⟨a,A,hf⟩
  ·rintro (s | s) hs
   ·exact aq.some (.inr hs)
   ·exact aq.some (.inl hs)
 ·rintro ⟨e,l⟩ (⟨g1,g2⟩ | ⟨g1,g2,g3⟩)
  ·simp only at g1
   subst g1
   exact aq.some (.inl ⟨rfl,rfl,g2⟩)
  ·simp only at g1 g2
   subst g1
   refine aq.some (.inr ⟨rfl,g2,fun r ks hr er hks => ?_⟩)
   have hm:di c ρ r∈L:=by
    rw [←hL]
    exact ud.2 ⟨r,yi.2 ⟨hr,er⟩,rfl⟩
   obtain ⟨j,hj,e⟩:=ug hm
   have:=g3 j hj ks (by rw [e];exact hks)
   rw [e] at this
   exact this
theorem zjt {r:List (List Int)×Int} (h:ye c zw p=some r):Q0 c zw p=some (r.2 == 0&&(r.1.length:Int) == 0,r.2):=by
 unfold Q0
 rw [h]
 simp only [aV]
 cases (r.2 == 0)<;>rfl
theorem zfy (hc:c.Ok) (cU:jK c zw p.state=true) (R:cE c ρ):zz c zw p=true↔(qa ρ c.ay.length).filter (fun P=>!j9 c zw p P)=[]:=by
 obtain ⟨h0,h1,hv⟩:=qX.1 cU
 rw [zX,List.filter_eq_nil_iff]
 constructor
 ·intro hs P hP
  obtain ⟨i,hi,rfl⟩:=ug hP
  obtain ⟨r,hr,er,ep⟩:=JT (c:=c) (ρ:=ρ) hi
  obtain ⟨ks,hks⟩:=kP hc hv.cv R r
  rw [ep,yO hks,zX.2 (Qw hc hks h0 _ ⟨p,hv,hs,rfl⟩)]
  simp
 ·intro h
  refine JS hc hv.cv R p ⟨hv,fun r ks hr er hks => ?_⟩
  have:=h (di c ρ r) (ud.2 ⟨r,yi.2 ⟨hr,er⟩,rfl⟩)
  rw [yO hks] at this
  simpa [zX] using this
end
end
section
noncomputable def tk (c:ax) (s:aG):Nat→aG
 | 0=>s
 | d+1=>zI c (tk c s d) (-1)
theorem CE {c:ax} (hc:c.Ok) {s:aG} (hv:VS c s):∀ d:Nat,s.day+d≤c.aX→VS c (tk c s d)∧(tk c s d).day=s.day+d
 | 0,_=>⟨hv,by simp [tk]⟩
 | d+1,h=>by
  obtain ⟨h1,h2⟩:=CE hc hv d (by omega)
  obtain ⟨_,h3,h4,_⟩:=ja hc h1 (a := -1) (by omega) (by omega) (by omega)
  have h5:=(h4 rfl).1
  exact ⟨h3,by show (zI c (tk c s d) (-1)).day=_;rw [h5,h2];omega⟩
def bN (s:aG):aH:={state:=s,own:=true}
def nZ (s:aG):aH:={state:=s,own:=false}
def Zj (c:ax) (zw:Int) (s:aG) (w:Int):Prop:=
 (w = -1∧∀ d:Nat,s.day+d < c.aX→zz c zw (bN (tk c s (d+1)))=true) ∨
 (∃ n:Nat,w=(n:Int)∧s.day+n < c.aX∧(∀ d:Nat,d < n→zz c zw (bN (tk c s (d+1)))=true)∧zz c zw (bN (tk c s (n+1)))=false)
section
variable {c:ax} {zw:Int} {p:aH} {a:bT}
theorem kj (hc:c.Ok) (A:bD c zw p a) {i:Nat} (hi:i < a.aU.length) (x:Int):aq (wj a (i:Int) x) (fun r=>(x∈zq c zw a.aU[i]∧r.2=true∧∃ j,∃ hj:j < a.aU.length,r.1=(j:Int)∧a.aU[j]=target c a.aU[i] x)∨(x ∉ zq c zw a.aU[i]∧r=(0,false))):=by
 obtain ⟨T,hT,hst,_⟩:=A.mv hi
 have BB:=A.len hc hi hT
 unfold wj
 refine aq.az (zy hT) ?_
 refine aq.bind (P:=fun o:Unit ⊕ Int=>(∃ m∈T,m.step=x∧o=.inr m.to)∨(o=.inl ()∧∀ m∈T,m.step≠x)) (aq.dP (fun k _=>∀ (j:Nat) (hj:j < T.length),j < k→T[j].step≠x) (by omega) (fun j _ hj=>by omega) (fun k _ hk hk2 => ?_) (fun _ h=>.inr ⟨rfl,fun m hm=>by obtain ⟨j,hj,rfl⟩:=ug hm;exact h j hj hj⟩)) ?_
 ·refine aq.az (zy (ua hk)) ?_
  refine aq.ite (fun h=>aq.some (.inl ⟨_,uc hk,by simpa using h,rfl⟩)) (fun h=>aq.some fun j hj hjk => ?_)
  by_cases e:j=k
  ·subst e;simpa using h
  ·exact hk2 j hj (by omega)
 ·rintro _ (⟨m,hm,e,rfl⟩ | ⟨rfl,h⟩)
  ·obtain ⟨t1,t2,t3,t4⟩:=A.tgt hi hT hm
   rw [e] at t1 t4
   exact aq.some (.inl ⟨t1,rfl,m.to.toNat,t3,(uR t2).symm,t4⟩)
  ·refine aq.some (.inr ⟨fun hx => ?_,rfl⟩)
   rw [←hst] at hx
   obtain ⟨m,hm,e⟩:=ud.1 hx
   exact h m hm e
theorem Ms {q:aH} (ho:q.own=true):(-2:Int)∈zq c zw q:=zO.2 (.inl ⟨ho,rfl⟩)
theorem Vz {q:aH} (ho:q.own=false) (hd:q.state.day < c.aX):(-1:Int)∈zq c zw q:=zO.2 (.inr (.inl ⟨hd,ho,rfl⟩))
theorem zju (hc:c.Ok) {s:aG} (hv:VS c s) (A:bD c zw (bN s) a):aq (YE c a (a.aU.map (zz c zw))) (Zj c zw s):=by
 unfold YE
 have lJ:=hv.day
 have hcd:c.aX≤2000:=(qy (hc.off.lt (by omega)) hv.cv).aX.2
 refine aq.bind (P:=fun o:Unit ⊕ Int=>(o=.inl ()∧Zj c zw s (-1))∨∃ w,o=.inr w∧Zj c zw s w) ?_ ?_
 ·refine aq.bind (P:=fun o:Unit ⊕ Int=>(o=.inl ()∧Zj c zw s (-1))∨∃ w,o=.inr w∧Zj c zw s w)
   (aq.iter (fun x:Int×Int=>∃ d:Nat,x.1=(d:Int)∧s.day+d≤c.aX∧(∀ d',d' < d→zz c zw (bN (tk c s (d'+1)))=true)∧∃ j,∃ hj:j < a.aU.length,x.2=(j:Int)∧a.aU[j]=bN (tk c s d)) (fun x=>(c.aX - s.day - x.1).toNat)
    ⟨0,rfl,by omega,fun d' h=>by omega,0,A.pos,rfl,by have:=A.F.first;rw [ua A.pos] at this;exact Option.some.inj this⟩ (fun x hx => ?_)) ?_
  ·obtain ⟨aX,eO⟩:=x
   obtain ⟨d,h1,h2,h3,j,hj,h4,h5⟩:=hx
   simp only at h1 h4 ⊢
   subst h1 h4
   obtain ⟨v1,v2⟩:=CE hc hv d h2
   refine aq.az (zy (ua hj)) ?_
   rw [h5]
   refine aq.ite (fun h => ?_) (fun h => ?_)
   ·have hlt:s.day+d < c.aX:=by
     have h:(tk c s d).day < c.aX:=of_decide_eq_true h
     omega
    refine aq.bind (kj hc A hj (-2)) ?_
    intro r hr
    obtain ⟨_,_,j1,fM,g1,g2⟩:=hr.resolve_right (fun h=>by rw [h5] at h;exact h.1 (Ms rfl))
    rw [g1]
    rw [h5,wT] at g2
    refine aq.bind (kj hc A fM (-1)) ?_
    intro r2 cy
    obtain ⟨_,_,j2,hj2,g3,g4⟩:=cy.resolve_right (fun h=>by rw [g2] at h;exact h.1 (Vz rfl (by show (tk c s d).day < c.aX;omega)))
    rw [g3]
    rw [g2,xe c _ (by omega)] at g4
    have g4:a.aU[j2]=bN (tk c s (d+1)):=g4
    refine aq.az (Ja A hj2) ?_
    rw [g4]
    refine aq.ite (fun hs => ?_) (fun hs => ?_)
    ·rw [qw (by omega) (by omega)]
     refine aq.some ⟨⟨d+1,rfl,by omega,fun d' BS => ?_,j2,hj2,rfl,g4⟩,by simp only;omega⟩
     by_cases e:d'=d
     ·rw [e];exact hs
     ·exact h3 d' (by omega)
    ·exact aq.some (.inr ⟨_,rfl,.inr ⟨d,rfl,hlt,h3,hs⟩⟩)
   ·have hge:c.aX≤s.day+d:=by
     have h:¬ (tk c s d).day < c.aX:=of_decide_eq_false h
     omega
    exact aq.some (.inl ⟨rfl,.inl ⟨rfl,fun d' BS=>h3 d' (by omega)⟩⟩)
  ·rintro _ (⟨rfl,h⟩ | ⟨w,rfl,h⟩)
   ·exact aq.some (.inl ⟨rfl,h⟩)
   ·exact aq.some (.inr ⟨w,rfl,h⟩)
 ·rintro _ (⟨rfl,h⟩ | ⟨w,rfl,h⟩)
  ·exact aq.some h
  ·exact aq.some h
def VA (c:ax) (zw:Int) (s:aG) (v:eF):Prop:=
 (zz c zw (bN s)=false∧v={safe:=false,move := -2,wait:=0})∨(zz c zw (bN s)=true∧v.safe=true∧v.move=qb c zw (bN s)∧Zj c zw s v.wait)
theorem Mt (hc:c.Ok) {s:aG} (hv:VS c s) (A:bD c zw (bN s) a) (hf:qD c zw (bN s)=some (a,0)):aq (dX c zw s) (fun r=>r.2=0∧VA c zw s r.1):=by
 unfold dX
 refine aq.az hf ?_
 refine aq.ite (fun _ => ?_) (fun h=>by cases h)
 have hp:=A.pos
 have h0:a.aU[0]=bN s:=by have:=A.F.first;rw [ua hp] at this;exact Option.some.inj this
 refine aq.az (JR hc A) ?_
 have hs0:=Ja A hp
 rw [h0] at hs0
 refine aq.az hs0 ?_
 refine aq.ite (fun hs => ?_) (fun hs=>aq.some ⟨rfl,.inl ⟨hs,rfl⟩⟩)
 refine aq.az (W8 hc A) ?_
 have ha0:ze (a.aU.map (qb c zw)) ((0:Nat):Int)=some (qb c zw (bN s)):=zy (by rw [uq,ua hp,h0];rfl)
 refine aq.az ha0 ?_
 refine aq.bind (zju hc hv A) ?_
 intro w hw
 exact aq.some ⟨rfl,.inr ⟨hs,rfl,rfl,hw⟩⟩
end
end
section
section
variable {c:ax} {zw:Int} {p:aH} {a:bT}
theorem KC {q:aH} (ho:q.own=true) (hs:zz c zw q=true):qb c zw q∈zq c zw q∧zz c zw (target c q (qb c zw q))=true∧∀ m∈zq c zw q,zz c zw (target c q m)=true→qb c zw q≤m:=by
 obtain ⟨_,m0,hm0,hs0⟩:=(ZY ho).1 (zX.1 hs)
 have eK:qb c zw q=((zq c zw q).find? fun m=>zz c zw (target c q m)).getD (-2):=by unfold qb;rw [ho,hs];rfl
 cases hf:(zq c zw q).find? (fun m=>zz c zw (target c q m)) with
 | none=>
  have:=u0.1 hf m0 hm0
  rw [zX.2 hs0] at this
  exact absurd rfl this
 | some x=>
  rw [hf] at eK
  have eK:qb c zw q=x:=eK
  obtain ⟨h1,i,hi,h2,h3⟩:=uL.1 hf
  rw [eK]
  refine ⟨by rw [←h2];exact uc hi,h1,fun m hm mY => ?_⟩
  obtain ⟨j,hj,rfl⟩:=ug hm
  by_cases e:j < i
  ·have:=h3 j e
   rw [mY] at this;cases this
  ·by_cases e2:j=i
   ·subst e2;omega
   ·have:=List.pairwise_iff_getElem.1 (zhB c zw q) i j hi hj (by omega)
    omega
end
end
section
def mZ (c:ax) (zw:Int) (s:aG) (x:Int):Prop:=x∈zq c zw (bN s)∧x ≠ -2∧qI c zw (target c (bN s) x)
def ed (S:Int→Prop) (m:Int):Prop:=(m = -2∧∀ x,¬ S x)∨(m ≠ -2∧S m∧∀ x,S x→m≤x)
theorem ed.eq {S:Int→Prop} {a b:Int} (ha:ed S a) (hb:ed S b):a=b:=by
 rcases ha with ⟨a1,a2⟩ | ⟨a0,a1,a2⟩<;>rcases hb with ⟨b1,b2⟩ | ⟨b0,b1,b2⟩
 ·omega
 ·exact absurd b1 (a2 b)
 ·exact absurd a1 (b2 a)
 ·have:=a2 b b1;have:=b2 a a1;omega
theorem ed.congr {S T:Int→Prop} {m:Int} (h:ed S m) (e:∀ x,S x↔T x):ed T m:=by
 rcases h with ⟨a1,a2⟩ | ⟨a0,a1,a2⟩
 ·exact .inl ⟨a1,fun x hx=>a2 x ((e x).2 hx)⟩
 ·exact .inr ⟨a0,(e m).1 a1,fun x hx=>a2 x ((e x).2 hx)⟩
theorem ed.step {S T:Int→Prop} {m y:Int} {b:Bool} (h:ed S m) (hy:b=true→y ≠ -2) (e:∀ x,T x↔S x∨(b=true∧x=y)):ed T (bif b&&(m == -2||decide (y < m)) then y else m):=by
 cases b with
 | false=>exact h.congr fun x=>by rw [e x];simp
 | true=>
  have hy:=hy rfl
  rcases h with ⟨a1,a2⟩ | ⟨a0,a1,a2⟩
  ·have:(m == -2)=true:=beq_iff_eq.2 a1
   rw [this]
   refine .inr ⟨hy,(e y).2 (.inr ⟨rfl,rfl⟩),fun x hx => ?_⟩
   rcases (e x).1 hx with g | ⟨_,rfl⟩
   ·exact absurd g (a2 x)
   ·exact uX _
  ·have:(m == -2)=false:=beq_eq_false_iff_ne.2 a0
   rw [this]
   by_cases hlt:y < m
   ·rw [decide_eq_true hlt]
    refine .inr ⟨hy,(e y).2 (.inr ⟨rfl,rfl⟩),fun x hx => ?_⟩
    rcases (e x).1 hx with g | ⟨_,rfl⟩
    ·have:=a2 x g;show y≤x;omega
    ·exact uX _
   ·rw [decide_eq_false hlt]
    refine .inr ⟨a0,(e m).2 (.inl a1),fun x hx => ?_⟩
    rcases (e x).1 hx with g | ⟨_,rfl⟩
    ·exact a2 x g
    ·show m≤x;omega
def gV (l:List Int) (w:Int):Prop:=(w = -1∧∀ x∈l,x < 0)∨(0≤w∧w∈l∧∀ x∈l,0≤x→w≤x)
theorem gV.step {l:List Int} {w y:Int} (h:gV l w):gV (l++[y]) (bif decide (0≤y)&&(decide (w < 0)||decide (y < w)) then y else w):=by
 by_cases h0:0≤y
 ·rw [decide_eq_true h0]
  rcases h with ⟨a1,a2⟩ | ⟨a0,a1,a2⟩
  ·rw [decide_eq_true (show w < 0 by omega)]
   refine .inr ⟨h0,by simp,fun x hx hx0 => ?_⟩
   rcases ut.1 hx with g | g
   ·have:=a2 x g;omega
   ·rw [ul] at g;subst g;exact uX _
  ·rw [decide_eq_false (show ¬ w < 0 by omega)]
   by_cases hlt:y < w
   ·rw [decide_eq_true hlt]
    refine .inr ⟨h0,by simp,fun x hx hx0 => ?_⟩
    rcases ut.1 hx with g | g
    ·have:=a2 x g hx0;show y≤x;omega
    ·rw [ul] at g;subst g;exact uX _
   ·rw [decide_eq_false hlt]
    refine .inr ⟨a0,by simp [a1],fun x hx hx0 => ?_⟩
    rcases ut.1 hx with g | g
    ·exact a2 x g hx0
    ·rw [ul] at g;subst g;show w≤x;omega
 ·rw [decide_eq_false h0]
  rcases h with ⟨a1,a2⟩ | ⟨a0,a1,a2⟩
  ·refine .inl ⟨a1,fun x hx => ?_⟩
   rcases ut.1 hx with g | g
   ·exact a2 x g
   ·rw [ul] at g;subst g;omega
  ·refine .inr ⟨a0,by simp [a1],fun x hx hx0 => ?_⟩
   rcases ut.1 hx with g | g
   ·exact a2 x g hx0
   ·rw [ul] at g;subst g;omega
section
variable {c:ax} {ρ:Nat→Nat} {zw:Int} {s:aG}
theorem YX (c:ax) (s:aG):target c (bN s) (-2)=nZ s:=if_pos rfl
theorem zfz (hc:c.Ok) (cU:jK c zw s=true) (R:cE c ρ) (hs:qI c zw (bN s)) (h0:0 < c.ay.length) {x:Int} :
  mZ c zw s x↔∃ r ks,r < c.ay.length∧ρ r=r∧bu c (di c ρ r) ks∧mZ (cp c ks) zw (rs (di c ρ r) s) x:=by
 obtain ⟨p0,p1,hv⟩:=qX.1 cU
 have hall:=fun r ks (hr:r < c.ay.length) (er:ρ r=r) (hks:bu c (di c ρ r) ks)=>Qw hc hks p0 _ ⟨bN s,hv,hs,rfl⟩
 constructor
 ·rintro ⟨h1,h2,h3⟩
  rcases zO.1 h1 with ⟨_,g⟩ | ⟨_,g,_⟩ | ⟨hd,i,hi,hm,rfl⟩
  ·exact absurd g h2
  ·cases g
  ·have ha:=ua hi
   have hne:zI c s i≠s:=by
    simp only [iZ,ha,ui,uh,vL] at hm
    exact hm.2
   have:∃ r,r < c.ay.length∧ρ r=r∧rs (di c ρ r) (zI c s i)≠rs (di c ρ r) s:=by
    apply Classical.byContradiction
    intro hno
    refine hne (zjq hc R hv hi hd h0 fun r hr er => ?_)
    apply Classical.byContradiction
    intro h
    exact hno ⟨r,hr,er,h⟩
   obtain ⟨r,hr,er,pU⟩:=this
   obtain ⟨ks,hks⟩:=kP hc hv.cv R r
   refine ⟨r,ks,hr,er,hks,?_⟩
   rcases WJ hc hks (p:=bN s) hv h1 with ⟨g1,g2⟩ | ⟨_,_,g⟩
   ·refine ⟨g1,h2,?_⟩
    have g2:target (cp c ks) (bN (rs (di c ρ r) s)) (i:Int)=pp (di c ρ r) (target c (bN s) (i:Int)):=g2
    rw [g2]
    exact Qw hc hks p0 _ ⟨_,j8 hc hv h1,h3,rfl⟩
   ·exact absurd g pU
 ·rintro ⟨r,ks,hr,er,hks,h1,h2,h3⟩
  obtain ⟨g1,g2⟩:=yN hc hks (p:=bN s) hv h1
  refine ⟨g1,h2,JS hc hv.cv R _ ⟨j8 hc hv g1,fun r' ks' hr' pq iC => ?_⟩⟩
  by_cases e:r=r'
  ·subst e
   have:ks=ks':=Option.some.inj (hks.sel.symm.trans iC.sel)
   subst this
   rw [←g2];exact h3
  ·rcases zO.1 h1 with ⟨_,g⟩ | ⟨_,g,_⟩ | ⟨hd,i,hi,hm,rfl⟩
   ·exact absurd g h2
   ·cases g
   ·have hi:i < c.aK.length:=hi
    have pU:rs (di c ρ r) (zI c s i)≠rs (di c ρ r) s:=by
     rw [←wq hc hks hv (by omega) (by omega) hd]
     have ha:=ua hi
     have ha':(cp c ks).aK[i]?=some c.aK[i]:=ha
     simp only [iZ,ha',ui,uh,vL] at hm
     exact hm.2
    rw [wH (p:=bN s) (Mk hc R hv hi hd hr hr' er pq e pU)]
    exact hall r' ks' hr' pq iC
theorem ZZ (hc:c.Ok) (tE:0≤zw) (R:cE c ρ) {p:aH} (hv:VS c p.state):qI c zw p↔∀ r ks,r < c.ay.length→ρ r=r→bu c (di c ρ r) ks→qI (cp c ks) zw (pp (di c ρ r) p):=
 ⟨fun hs r ks _ _ hks=>Qw hc hks tE _ ⟨p,hv,hs,rfl⟩,fun h=>JS hc hv.cv R p ⟨hv,h⟩⟩
theorem KF (hc:c.Ok) {P:List Int} {ks:List aO} (h:bu c P ks) (hv:VS c s):∀ k:Nat,s.day+k≤c.aX→tk (cp c ks) (rs P s) k=rs P (tk c s k)
 | 0,_=>rfl
 | k+1,hk=>by
  obtain ⟨h1,h2⟩:=CE hc hv k (by omega)
  show zI (cp c ks) (tk (cp c ks) (rs P s) k) (-1)=rs P (zI c (tk c s k) (-1))
  rw [KF hc h hv k (by omega),wq hc h h1 (by omega) (by omega) (by omega)]
theorem X7 (hs:zz c zw (bN s)=true):(qI c zw (nZ s)∧qb c zw (bN s) = -2)∨(¬ qI c zw (nZ s)∧ed (mZ c zw s) (qb c zw (bN s))∧qb c zw (bN s) ≠ -2):=by
 obtain ⟨g1,g2,g3⟩:=KC (c:=c) (zw:=zw) (q:=bN s) rfl hs
 by_cases hp:qI c zw (nZ s)
 ·left
  refine ⟨hp,?_⟩
  have:=g3 (-2) (zO.2 (.inl ⟨rfl,rfl⟩)) (by rw [YX];exact zX.2 hp)
  rcases zO.1 g1 with ⟨_,g⟩ | ⟨_,g,_⟩ | ⟨_,i,_,_,g⟩
  ·exact g
  ·cases g
  ·omega
 ·right
  have hne:qb c zw (bN s) ≠ -2:=fun e=>by
   rw [e,YX] at g2
   exact hp (zX.1 g2)
  exact ⟨hp,.inr ⟨hne,⟨g1,hne,zX.1 g2⟩,fun x hx=>g3 x hx.1 (zX.2 hx.2.2)⟩,hne⟩
theorem zhO {w w':Int} (h:Zj c zw s w) (h':Zj c zw s w'):w=w':=by
 rcases h with ⟨rfl,h⟩ | ⟨n,rfl,h1,h2,h3⟩<;>rcases h' with ⟨rfl,g⟩ | ⟨m,rfl,g1,g2,g3⟩
 ·rfl
 ·have:=h m g1;rw [g3] at this;cases this
 ·have:=g n h1;rw [h3] at this;cases this
 ·rcases Nat.lt_trichotomy n m with e | e | e
  ·have:=g2 n e;rw [h3] at this;cases this
  ·rw [e]
  ·have:=h2 m e;rw [g3] at this;cases this
noncomputable def mh (c:ax) (zw:Int) (s:aG) (P:List Int):eF:=((dX (vj c P).1 zw (rs P s)).getD ({safe:=false,move:=0,wait:=0},1)).1
theorem zk6 (hc:c.Ok) (hv:VS c s) {P:List Int} {ks:List aO} (h:bu c P ks) {a:bT} (A:bD (cp c ks) zw (bN (rs P s)) a) (hf:qD (cp c ks) zw (bN (rs P s))=some (a,0)) :
  dX (cp c ks) zw (rs P s)=some (mh c zw s P,0)∧VA (cp c ks) zw (rs P s) (mh c zw s P):=by
 obtain ⟨⟨v,e⟩,h1,h2,h3⟩:=Mt (h.th hc) (WF hc h hv) A hf
 simp only at h2 h3
 subst h2
 have:mh c zw s P=v:=by
  unfold mh
  rw [h.eq]
  show ((dX (cp c ks) zw (rs P s)).getD _).1=v
  rw [h1];rfl
 rw [this]
 exact ⟨h1,h3⟩
structure lg (c:ax) (zw:Int) (s:aG) (Ps:List (List Int)) (v:Bool×Int×Int×Bool):Prop where
 safe:v.1=Ps.all (j9 c zw (bN s))
 move:ed (fun x=>∃ P∈Ps,mZ (vj c P).1 zw (rs P s) x) v.2.1
 wait:gV (Ps.map fun P=>(mh c zw s P).wait) v.2.2.1
 pass:v.2.2.2=Ps.all fun P=>(mh c zw s P).move == -2
 ok:∀ P∈Ps,VA (vj c P).1 zw (rs P s) (mh c zw s P)
def Z0 (c:ax) (zw:Int) (s:aG) (P:List Int):Prop:=∃ a,bD (vj c P).1 zw (bN (rs P s)) a∧qD (vj c P).1 zw (bN (rs P s))=some (a,0)
theorem zdz (hc:c.Ok) (cU:jK c zw s=true) {P:List Int} {ks:List aO} (h:bu c P ks) {Ps:List (List Int)} {v:Bool×Int×Int×Bool} (hI:lg c zw s Ps v) :
  aq (XO P (cp c ks) (rs P s) true zw v.1 v.2.1 v.2.2.1 v.2.2.2) (fun r=>(r.1=3∧(¬ ∃ a,bD c zw (bN s) a)∧¬ Z0 c zw s P)∨(r.1=0∧Z0 c zw s P∧lg c zw s (Ps++[P]) r.2)):=by
 obtain ⟨p0,p1,hv⟩:=qX.1 cU
 have hok:=h.th hc
 obtain ⟨b0,m0,w0,q0⟩:=v
 obtain ⟨i1,i2,i3,i4,i5⟩:=hI
 simp only at i1 i2 i3 i4 ⊢
 unfold XO
 obtain ⟨⟨a,e⟩,hf,cy⟩:=Mq hc (p:=bN s) cU h
 refine aq.az hf ?_
 rcases cy with ⟨g1,A⟩ | ⟨g1,g2⟩
 case inr=>
  simp only at g1
  subst g1
  refine aq.some (.inl ⟨rfl,g2,fun ⟨a',_,h'⟩ => ?_⟩)
  rw [h.eq] at h'
  cases hf.symm.trans h'
 simp only at g1 A
 subst g1
 obtain ⟨eK,hAR⟩:=zk6 hc hv h A hf
 obtain ⟨nO,ep⟩:=Mr A
 obtain ⟨T,hT,hst,_⟩:=A.mv nO
 have BB:=A.len hok nO hT
 rw [ep] at hst
 refine aq.ite (fun _ => ?_) (fun h=>by cases h)
 refine aq.az (JR hok A) ?_
 refine aq.az eK ?_
 refine aq.ite (fun _ => ?_) (fun h=>by cases h)
 refine aq.az (v:=b0&&j9 c zw (bN s) P) ?_ ?_
 ·rw [YW hok A,yO h]
  cases b0<;>rfl
 refine aq.az (v:=q0&&((mh c zw s P).move == -2)) ?_ ?_
 ·cases q0<;>rfl
 refine aq.az (zy hT) ?_
 refine aq.bind (P:=fun o:Int ⊕ Unit=>∃ m,o=.inl m∧ed (fun x=>(∃ Q∈Ps,mZ (vj c Q).1 zw (rs Q s) x)∨mZ (cp c ks) zw (rs P s) x) m) (aq.dP (fun i m=>ed (fun x=>(∃ Q∈Ps,mZ (vj c Q).1 zw (rs Q s) x)∨∃ (j:Nat) (hj:j < T.length),j < i∧x=T[j].step∧x ≠ -2∧qI (cp c ks) zw (target (cp c ks) (bN (rs P s)) x)) m) (by omega) (i2.congr fun x => ?_) (fun i m hi hm => ?_) (fun m hm=>⟨m,rfl,hm.congr fun x => ?_⟩)) ?_
 ·constructor
  ·exact .inl
  ·rintro (g | ⟨j,_,hj,_⟩)
   ·exact g
   ·omega
 ·have hTi:=ua hi
  refine aq.az (v:=bif (bif T[i].step == -2 then false else zz (cp c ks) zw (target (cp c ks) (bN (rs P s)) T[i].step))&&(m == -2||decide (T[i].step < m)) then T[i].step else m) ?_ ?_
  ·rw [zy hTi]
   simp only [aV]
   cases hb:(T[i].step == -2) with
   | true=>simp
   | false=>
    have hto:=Mi A nO hT (uc hi)
    rw [ep] at hto
    have hto:ze (a.aU.map (zz (cp c ks) zw)) T[i].to=some (zz (cp c ks) zw (target (cp c ks) (bN (rs P s)) T[i].step)):=hto
    simp only [b9,hto,aV]
    cases zz (cp c ks) zw (target (cp c ks) (bN (rs P s)) T[i].step)<;>cases (m == -2)<;>cases decide (T[i].step < m)<;>rfl
  refine aq.some ?_
  refine ed.step hm (fun hb => ?_) fun x => ?_
  ·intro e
   rw [e] at hb
   simp at hb
  ·constructor
   ·rintro (g | ⟨j,hj,hji,e1,e2,e3⟩)
    ·exact .inl (.inl g)
    ·rcases Ue j i with h1 | h1
     ·exact .inl (.inr ⟨j,hj,h1,e1,e2,e3⟩)
     ·obtain rfl:j=i:=by omega
      refine .inr ⟨?_,e1⟩
      rw [←e1,beq_eq_false_iff_ne.2 e2]
      exact zX.2 e3
   ·rintro ((g | ⟨j,hj,hji,e1,e2,e3⟩) | ⟨hb,e1⟩)
    ·exact .inl g
    ·exact .inr ⟨j,hj,by omega,e1,e2,e3⟩
    ·refine .inr ⟨i,hi,by omega,e1,?_,?_⟩
     ·intro e2
      rw [←e1,e2] at hb
      simp at hb
     ·cases h2:(T[i].step == -2) with
      | true=>rw [h2] at hb;cases hb
      | false=>rw [h2,b9] at hb;rw [e1];exact zX.1 hb
 ·constructor
  ·rintro (g | ⟨j,hj,_,e1,e2,e3⟩)
   ·exact .inl g
   ·refine .inr ⟨?_,e2,e3⟩
    have:T[j].step∈T.map (fun m:bh=>m.step):=ud.2 ⟨_,uc hj,rfl⟩
    rw [e1]
    rw [hst] at this
    exact this
  ·rintro (g | ⟨e1,e2,e3⟩)
   ·exact .inl g
   ·right
    have e1:x∈zq (cp c ks) zw (pp P (bN s)):=e1
    rw [←hst] at e1
    obtain ⟨t,ht,e4⟩:=ud.1 e1
    obtain ⟨j,hj,rfl⟩:=ug ht
    exact ⟨j,hj,hj,e4.symm,e2,e3⟩
 ·rintro _ ⟨m,rfl,hm⟩
  refine aq.az (v:=bif decide (0≤(mh c zw s P).wait)&&(decide (w0 < 0)||decide ((mh c zw s P).wait < w0)) then (mh c zw s P).wait else w0) ?_ ?_
  ·simp only
   cases decide (0≤(mh c zw s P).wait)<;>cases decide (w0 < 0)<;>cases decide ((mh c zw s P).wait < w0)<;>rfl
  refine aq.some (.inr ⟨rfl,⟨a,by rw [h.eq];exact A,by rw [h.eq];exact hf⟩,?_,?_,?_,?_,?_⟩)
  ·show (b0&&j9 c zw (bN s) P)=_
   rw [i1,u9];simp
  ·refine hm.congr fun x => ?_
   simp only [ut,ul]
   constructor
   ·rintro (⟨Q,hQ,g⟩ | g)
    ·exact ⟨Q,.inl hQ,g⟩
    ·exact ⟨P,.inr rfl,by rw [h.eq];exact g⟩
   ·rintro ⟨Q,hQ | rfl,g⟩
    ·exact .inl ⟨Q,hQ,g⟩
    ·rw [h.eq] at g;exact .inr g
  ·show gV _ _
   rw [uT]
   exact i3.step
  ·show (q0&&((mh c zw s P).move == -2))=_
   rw [i4,u9];simp
  ·intro Q hQ
   rcases ut.1 hQ with g | g
   ·exact i5 Q g
   ·rw [ul] at g
    subst g
    rw [h.eq];exact hAR
theorem zc0 (hc:c.Ok) (cU:jK c zw s=true) (R:cE c ρ) (hC:qj c=some (qa ρ c.ay.length)) :
  aq (QZ c zw s true zw true (-2) (-1) true) (fun r=>(r.1=3∧(¬ ∃ a,bD c zw (bN s) a)∧∃ P∈qa ρ c.ay.length,¬ Z0 c zw s P)∨(r.1=0∧(∀ P∈qa ρ c.ay.length,Z0 c zw s P)∧lg c zw s (qa ρ c.ay.length) r.2)):=by
 obtain ⟨h0,h1,hv⟩:=qX.1 cU
 have sm:=qy (hc.off.lt (by omega)) hv.cv
 have dY:=sm.ay
 have oP:=Ml (c:=c) (ρ:=ρ)
 have nK:=fun i (hi:i < (qa ρ c.ay.length).length)=>JT (c:=c) (ρ:=ρ) hi
 generalize hL:qa ρ c.ay.length=L at hC oP nK ⊢
 unfold QZ
 refine aq.az (v:=false) ?_ ?_
 ·rw [decide_eq_false (show ¬ zw < 0 by omega),decide_eq_false (show ¬ c.aW≤zw by omega),vp c _ hc,ZS hv];rfl
 refine aq.ite (fun h=>by cases h) (fun _ => ?_)
 refine aq.bind (P:=fun r:Int×Bool×Int×Int×Bool=>(r.1=3∧(¬ ∃ a,bD c zw (bN s) a)∧∃ P∈L,¬ Z0 c zw s P)∨(r.1=0∧(∀ P∈L,Z0 c zw s P)∧lg c zw s L r.2)) ?_ (fun v hv=>aq.some hv)
 refine aq.az hC ?_
 refine aq.bind (P:=fun o:(Int×Bool×Int×Int×Bool) ⊕ (Int×Bool×Int×Int×Bool)=>match o with
  | .inl r=>r.1=0∧(∀ P∈L,Z0 c zw s P)∧lg c zw s L r.2
  | .inr r=>r.1=3∧(¬ ∃ a,bD c zw (bN s) a)∧∃ P∈L,¬ Z0 c zw s P) ?_ ?_
 ·refine aq.dP (fun i r=>r.1=0∧(∀ P∈L.take i,Z0 c zw s P)∧lg c zw s (L.take i) r.2) (by omega) ⟨rfl,fun P hP=>by simp at hP,rfl,.inl ⟨rfl,fun x ⟨P,hP,_⟩=>by simp at hP⟩,.inl ⟨rfl,fun x hx=>by simp at hx⟩,rfl,fun P hP=>by simp at hP⟩ ?_ (fun r hr=>⟨hr.1,by rw [uD] at hr;exact hr.2⟩)
  rintro i ⟨e,v⟩ hi ⟨rfl,hH,hI⟩
  simp only at hI
  obtain ⟨r,hr,er,ep⟩:=nK i hi
  obtain ⟨ks,hks⟩:=kP hc hv.cv R r
  rw [←ep] at hks
  have BF:L[i].length≤400:=by rw [ep];have:=Mm (c:=c) (ρ:=ρ) r;omega
  have EY:∀ x∈L[i],0≤x∧x < c.ay.length:=by rw [ep];exact Mn r
  refine aq.az (zy (ua hi)) ?_
  refine aq.az (Mo hc BF hks) ?_
  refine aq.bind (P:=fun v:Int×Bool×Int×Int×Bool=>(v.1=3∧(¬ ∃ a,bD c zw (bN s) a)∧¬ Z0 c zw s L[i])∨(v.1=0∧Z0 c zw s L[i]∧lg c zw s (L.take i++[L[i]]) v.2)) ?_ ?_
  ·refine aq.ite (fun _ => ?_) (fun h=>by cases h)
   refine aq.az (X6 hc hv EY BF) ?_
   refine aq.bind (zdz hc cU hks hI) ?_
   rintro r hr
   exact aq.some hr
  ·rintro ⟨e,v2⟩ (⟨g1,g2,g3⟩ | ⟨g1,g3,g2⟩)
   ·simp only at g1
    subst g1
    exact aq.some ⟨rfl,g2,_,uc hi,g3⟩
   ·simp only at g1 g2
    subst g1
    refine aq.some ⟨rfl,fun P hP => ?_,?_⟩
    ·rw [ue hi] at hP
     rcases ut.1 hP with q | q
     ·exact hH P q
     ·rw [ul] at q;subst q;exact g3
    ·rw [ue hi]
     exact g2
 ·rintro (r | r) hr
  ·exact aq.some (.inr hr)
  ·exact aq.some (.inl hr)
theorem zdA (hc:c.Ok) (cU:jK c zw s=true) (R:cE c ρ) (hC:qj c=some (qa ρ c.ay.length)) :
  aq (QZ c zw s true zw true (-2) (-1) true) (fun r=>(r.1=3∧¬ ∃ a,bD c zw (bN s) a)∨(r.1=0∧lg c zw s (qa ρ c.ay.length) r.2)):=by
 refine aq.mono (zc0 hc cU R hC) ?_
 rintro r (⟨g1,g2,_⟩ | ⟨g1,_,g2⟩)
 ·exact .inl ⟨g1,g2⟩
 ·exact .inr ⟨g1,g2⟩
theorem zfA (hc:c.Ok) (cU:jK c zw s=true) (R:cE c ρ) {v:Bool×Int×Int×Bool} (hI:lg c zw s (qa ρ c.ay.length) v) {w:eF} (hw:VA c zw s w) :
  w=bif v.1 then {safe:=true,move:=(bif v.2.2.2 then -2 else v.2.1),wait:=v.2.2.1} else {safe:=false,move := -2,wait:=0}:=by
 obtain ⟨p0,p1,hv⟩:=qX.1 cU
 obtain ⟨b,m,wt,q⟩:=v
 obtain ⟨i1,i2,i3,i4,i5⟩:=hI
 simp only at i1 i2 i3 i4 ⊢
 have hmem:∀ P∈qa ρ c.ay.length,∃ r ks,r < c.ay.length∧ρ r=r∧bu c (di c ρ r) ks∧P=di c ρ r:=fun P hP=>by
  obtain ⟨i,hi,rfl⟩:=ug hP
  obtain ⟨r,hr,er,ep⟩:=JT (c:=c) (ρ:=ρ) hi
  obtain ⟨ks,hks⟩:=kP hc hv.cv R r
  exact ⟨r,ks,hr,er,hks,ep⟩
 have hin:∀ r,r < c.ay.length→ρ r=r→di c ρ r∈qa ρ c.ay.length:=fun r hr er=>ud.2 ⟨r,yi.2 ⟨hr,er⟩,rfl⟩
 have hb:b=zz c zw (bN s):=by
  rw [i1,Bool.eq_iff_iff,u6,zX,ZZ hc p0 R (p:=bN s) hv]
  constructor
  ·intro h r ks hr er hks
   have:=h _ (hin r hr er)
   rw [yO hks] at this
   exact zX.1 this
  ·intro h P hP
   obtain ⟨r,ks,hr,er,hks,rfl⟩:=hmem P hP
   rw [yO hks]
   exact zX.2 (h r ks hr er hks)
 rcases hw with ⟨h1,h2⟩ | ⟨h1,h2,h3,h4⟩
 ·rw [hb,h1,h2];rfl
 rw [hb,h1,bW]
 have hS:=zX.1 h1
 have gW:∀ r ks,r < c.ay.length→ρ r=r→bu c (di c ρ r) ks→zz (cp c ks) zw (bN (rs (di c ρ r) s))=true∧(mh c zw s (di c ρ r)).move=qb (cp c ks) zw (bN (rs (di c ρ r) s))∧Zj (cp c ks) zw (rs (di c ρ r) s) (mh c zw s (di c ρ r)).wait:=fun r ks hr er hks=>by
  have Ae:zz (cp c ks) zw (bN (rs (di c ρ r) s))=true:=zX.2 ((ZZ hc p0 R (p:=bN s) hv).1 hS r ks hr er hks)
  have:=i5 _ (hin r hr er)
  rw [hks.eq] at this
  rcases this with ⟨g,_⟩ | ⟨_,_,g2,g3⟩
  ·have g:zz (cp c ks) zw (bN (rs (di c ρ r) s))=false:=g
   rw [Ae] at g;cases g
  ·exact ⟨Ae,g2,g3⟩
 have hq:q=true↔qI c zw (nZ s):=by
  rw [i4,u6,ZZ hc p0 R (p:=nZ s) hv]
  constructor
  ·intro h r ks hr er hks
   have:=h _ (hin r hr er)
   rw [beq_iff_eq] at this
   obtain ⟨g1,g2,_⟩:=gW r ks hr er hks
   rw [g2] at this
   rcases X7 g1 with ⟨k,_⟩ | ⟨_,_,k⟩
   ·exact k
   ·exact absurd this k
  ·intro h P hP
   obtain ⟨r,ks,hr,er,hks,rfl⟩:=hmem P hP
   obtain ⟨g1,g2,_⟩:=gW r ks hr er hks
   rw [beq_iff_eq,g2]
   rcases X7 g1 with ⟨_,k⟩ | ⟨k,_⟩
   ·exact k
   ·exact absurd (h r ks hr er hks) k
 have rP:w.move=(bif q then -2 else m):=by
  rw [h3]
  rcases X7 h1 with ⟨k1,k2⟩ | ⟨k1,k2,k3⟩
  ·rw [k2,hq.2 k1];rfl
  ·have hqf:q=false:=by
    rw [←uE,hq];exact k1
   rw [hqf,b9]
   have h0:0 < c.ay.length:=by
    rcases Nat.eq_zero_or_pos c.ay.length with e | e
    ·exfalso
     refine k1 ((ZZ hc p0 R (p:=nZ s) hv).2 fun r ks hr=>by omega)
    ·exact e
   refine k2.eq (i2.congr fun x => ?_)
   rw [zfz hc cU R hS h0]
   constructor
   ·rintro ⟨P,hP,g⟩
    obtain ⟨r,ks,hr,er,hks,rfl⟩:=hmem P hP
    rw [hks.eq] at g
    exact ⟨r,ks,hr,er,hks,g⟩
   ·rintro ⟨r,ks,hr,er,hks,g⟩
    exact ⟨_,hin r hr er,by rw [hks.eq];exact g⟩
 have fD:∀ d:Nat,s.day+d < c.aX→(zz c zw (bN (tk c s (d+1)))=true↔∀ r ks,r < c.ay.length→ρ r=r→bu c (di c ρ r) ks→zz (cp c ks) zw (bN (tk (cp c ks) (rs (di c ρ r) s) (d+1)))=true):=fun d hd=>by
  have D4:=(CE hc hv (d+1) (by omega)).1
  rw [zX,ZZ hc p0 R (p:=bN (tk c s (d+1))) D4]
  constructor
  ·intro h r ks hr er hks
   rw [KF hc hks hv (d+1) (by omega)]
   exact zX.2 (h r ks hr er hks)
  ·intro h r ks hr er hks
   have:=h r ks hr er hks
   rw [KF hc hks hv (d+1) (by omega)] at this
   exact zX.1 this
 have rQ:w.wait=wt:=by
  refine zhO h4 ?_
  rcases i3 with ⟨rfl,g⟩ | ⟨g0,g1,g2⟩
  ·refine .inl ⟨rfl,fun d hd=>(fD d hd).2 fun r ks hr er hks => ?_⟩
   obtain ⟨_,_,k⟩:=gW r ks hr er hks
   have:=g _ (ud.2 ⟨_,hin r hr er,rfl⟩)
   rcases k with ⟨_,k⟩ | ⟨n,k,_⟩
   ·exact k d hd
   ·omega
  ·obtain ⟨P,hP,e⟩:=ud.1 g1
   obtain ⟨r,ks,hr,er,hks,rfl⟩:=hmem P hP
   obtain ⟨_,_,k⟩:=gW r ks hr er hks
   rcases k with ⟨k,_⟩ | ⟨n,k,k1,k2,k3⟩
   ·omega
   ·have k1:s.day+n < c.aX:=k1
    refine .inr ⟨n,by omega,k1,fun d hd=>(fD d (by omega)).2 fun r' ks' hr' pq iC => ?_,?_⟩
    ·obtain ⟨_,_,j⟩:=gW r' ks' hr' pq iC
     rcases j with ⟨_,j⟩ | ⟨n',j,_,j2,_⟩
     ·exact j d (by show s.day+d < c.aX;omega)
     ·have:=g2 _ (ud.2 ⟨_,hin r' hr' pq,rfl⟩) (by omega)
      exact j2 d (by omega)
    ·rw [←uE,fD n k1]
     intro h
     have:=h r ks hr er hks
     rw [k3] at this;cases this
 obtain ⟨ws,wm,ww⟩:=w
 simp only at h2 rP rQ
 rw [h2,rP,rQ]
end
end
section
noncomputable def bY (c:ax) (s0:aG) (l:List Int):aG:=l.foldl (fun s x=>zI c s x) s0
theorem jh (c:ax) (s0:aG) (l:List Int) (x:Int):bY c s0 (l++[x])=zI c (bY c s0 l) x:=by unfold bY;rw [List.foldl_append];rfl
structure dc (c:ax) (P:aG→Prop) (s0:aG) (l:List Int):Prop where
 first:P s0
 step:∀ (k:Nat) (hk:k < l.length),(bY c s0 (l.take k)).day < c.aX ∧ -1≤l[k]∧l[k] < c.aK.length∧P (bY c s0 (l.take (k+1)))
section
variable {c:ax} {P:aG→Prop} {s0:aG} {l:List Int}
theorem dc.nil (h:P s0):dc c P s0 []:=⟨h,fun k hk=>by simp at hk⟩
theorem dc.snoc (h:dc c P s0 l) {x:Int} (hd:(bY c s0 l).day < c.aX) (h0 : -1≤x) (h1:x < c.aK.length) (hP:P (zI c (bY c s0 l) x)):dc c P s0 (l++[x]):=by
 refine ⟨h.first,fun k hk => ?_⟩
 rw [uv] at hk
 simp only [uC,uU] at hk
 by_cases e:k=l.length
 ·subst e
  have e1:(l++[x]).take l.length=l:=by simp
  have e2:(l++[x]).take (l.length+1)=l++[x]:=List.take_of_length_le (by simp)
  rw [e1,e2,jh]
  simp only [List.getElem_append_right (uM _),Uc,List.getElem_cons_zero]
  exact ⟨hd,h0,h1,hP⟩
 ·have hk2:k < l.length:=by omega
  rw [uN (by omega),uN (by omega),List.getElem_append_left hk2]
  exact h.step k hk2
theorem dc.take (h:dc c P s0 l) (n:Nat):dc c P s0 (l.take n):=by
 refine ⟨h.first,fun k hk => ?_⟩
 rw [u5] at hk
 have h1:=h.step k (by omega)
 rw [Ua,Ua,show min k n=k by omega,show min (k+1) n=k+1 by omega,List.getElem_take]
 exact h1
theorem dc.all (h:dc c P s0 l):∀ k,k≤l.length→P (bY c s0 (l.take k))
 | 0,_=>by rw [Ub];exact h.first
 | k+1,hk=>(h.step k (by omega)).2.2.2
theorem dc.vs (hc:c.Ok) (hv:VS c s0) (h:dc c P s0 l):∀ k,k≤l.length→VS c (bY c s0 (l.take k))
 | 0,_=>by rw [Ub];exact hv
 | k+1,hk=>by
  obtain ⟨a1,a2,a3,_⟩:=h.step k (by omega)
  have h2:=dc.vs hc hv h k (by omega)
  rw [ue (by omega),jh]
  exact (ja hc h2 a2 a3 a1).2.1
theorem dc.Af (hc:c.Ok) (hv:VS c s0) (h:dc c P s0 l):VS c (bY c s0 l):=by
 have:=h.vs hc hv l.length (uM _)
 rwa [uD] at this
theorem zk7 (hc:c.Ok) (hst:qM c=some (s0,0)) (hv:VS c s0) (h:dc c P s0 l) (hl:l.length≤4000):Cq c l=some ((uk (l.length+1)).map fun k=>bY c s0 (l.take k),0):=by
 refine aq.eq ?_
 unfold Cq
 refine aq.az hst ?_
 refine aq.ite (fun _ => ?_) (fun h=>by cases h)
 refine aq.ite (fun h=>by have:=of_decide_eq_true h;omega) (fun _ => ?_)
 refine aq.bind (P:=fun o:(List aG×Int×List Int×List Bool×List aj) ⊕ Int=>∃ x,o=.inl x∧x.1=(uk (l.length+1)).map fun k=>bY c s0 (l.take k))
  (aq.dP (fun i x=>x=((uk (i+1)).map (fun k=>bY c s0 (l.take k)),(bY c s0 (l.take i)).day,(bY c s0 (l.take i)).aE,(bY c s0 (l.take i)).used,(bY c s0 (l.take i)).aI)) (by omega) (by simp [bY]) (fun i x hi hx => ?_) (fun x hx=>⟨x,rfl,by rw [hx]⟩)) ?_
 ·subst hx
  obtain ⟨a1,a2,a3,_⟩:=h.step i hi
  have hvi:=h.vs hc hv i (by omega)
  refine aq.az (zy (ua hi)) ?_
  refine aq.az (ja hc hvi a2 a3 a1).1 ?_
  refine aq.ite (fun _ => ?_) (fun h=>by cases h)
  refine aq.az (xT (by simp;omega)) ?_
  refine aq.some ?_
  have e:zI c (bY c s0 (l.take i)) l[i]=bY c s0 (l.take (i+1)):=by rw [ue hi,jh]
  rw [e,uP (n:=i+1),uT]
  rfl
 ·rintro _ ⟨x,rfl,hx⟩
  simp only [uw]
  rw [hx]
  exact aq.some rfl
end
def xa (c:ax) (s:aG) (x:Int):Int:=if x = -1 then -1 else match c.aK[x.toNat]? with
 | some a=>jJ s.aE a
 | none => -1
theorem Mu {c:ax} {s:aG} (hv:VS c s) {x:Int} (h0 : -1≤x) (h1:x < c.aK.length):QW c s x=some (xa c s x):=by
 unfold QW xa
 by_cases e:x = -1
 ·subst e;rfl
 ·obtain ⟨i,rfl⟩:∃ i:Nat,x=(i:Int):=⟨x.toNat,by omega⟩
  have hi:i < c.aK.length:=by omega
  have av:=YJ hv.cv (ua hi)
  have hr:=av.bK
  have Bu:=hv.lh
  rw [beq_eq_false_iff_ne.2 e,if_neg e,b9,zy (ua hi),uH,ua hi]
  simp only [aV,jJ]
  cases hz:(c.aK[i].bK == -1) with
  | true=>rfl
  | false=>
   have gB:c.aK[i].bK ≠ -1:=by simpa using hz
   obtain ⟨h2,h3⟩:=qW (l:=s.aE) (n:=c.aK[i].bK) (by omega) (by omega)
   simp only [b9,h3,aV]
   rw [ua h2];rfl
section
variable {c:ax} {zw:Int} {p:aH} {a:bT}
theorem EZ (hc:c.Ok) (A:bD c zw p a) {s:aG} {j:Nat} (hj:j < a.aU.length) (hs:a.aU[j]=bN s) (hd:s.day < c.aX) {x:Int} (h0 : -1≤x) (h1:x < c.aK.length) {l:List Int} (hl:l.length≤5000) :
  aq (ZN x l (j:Int) c a zw) (fun r=>r.1=l++[x]∧∃ j2,∃ hj2:j2 < a.aU.length,r.2=(j2:Int)∧a.aU[j2]=bN (zI c s x)):=by
 have hv:VS c s:=by have:=A.F.inv.vs _ (uc hj);rw [hs] at this;exact this
 have nO:=A.p0
 unfold ZN
 refine aq.az (xT (by simp;omega)) ?_
 refine aq.bind (P:=fun v:Int=>∃ o:Bool,(o=(xa c s x == zw))∧∃ j1,∃ fM:j1 < a.aU.length,v=(j1:Int)∧a.aU[j1]={state:=s,own:=o}) ?_ ?_
 ·refine aq.az (zy (ua hj)) ?_
  rw [hs]
  refine aq.az (Mu hv h0 h1) ?_
  refine aq.ite (fun h=>aq.some ⟨true,h.symm,j,hj,rfl,hs⟩) (fun h => ?_)
  refine aq.bind (kj hc A hj (-2)) ?_
  intro r hr
  obtain ⟨_,_,j1,fM,g1,g2⟩:=hr.resolve_right (fun h=>by rw [hs] at h;exact h.1 (Ms rfl))
  rw [hs,wT] at g2
  exact aq.some ⟨false,h.symm,j1,fM,g1,g2⟩
 ·rintro _ ⟨o,ho,j1,fM,rfl,h2⟩
  refine aq.bind (kj hc A fM x) ?_
  rintro r (⟨g1,g2,j2,hj2,g3,g4⟩ | ⟨g1,rfl⟩)
  ·rw [h2,xe c _ h0] at g4
   refine aq.ite (fun _=>aq.some ⟨rfl,j2,hj2,g3,g4⟩) (fun h=>by rw [g2] at h;cases h)
  ·refine aq.ite (fun h=>by cases h) (fun _=>aq.some ⟨rfl,j,hj,rfl,?_⟩)
   rw [h2] at g1
   by_cases e:x = -1
   ·exfalso
    subst e
    have:xa c s (-1) = -1:=by unfold xa;rw [if_pos rfl]
    rw [this,beq_eq_false_iff_ne.2 (by omega)] at ho
    subst ho
    exact g1 (Vz rfl hd)
   ·obtain ⟨i,rfl⟩:∃ i:Nat,x=(i:Int):=⟨x.toNat,by omega⟩
    have hi:i < c.aK.length:=by omega
    cases mY:xZ (zI c s i) s with
    | true=>rw [hs,vJ.1 mY]
    | false=>
     exfalso
     refine g1 (zO.2 (.inr (.inr ⟨hd,i,hi,?_,rfl⟩)))
     have rz:xa c s (i:Int)=jJ s.aE c.aK[i]:=by
      unfold xa;rw [if_neg (by omega),uH,ua hi]
     rw [rz] at ho
     simp only [iZ,ua hi,mY]
     rw [ho];simp
end
end
section
inductive nB (c:ax) (zw:Int) (s0:aG):List Int→List Int→Prop where
 | stop {l:List Int} (h:qb c zw (bN (bY c s0 l)) = -2):nB c zw s0 l l
 | go {l l2:List Int} (h:qb c zw (bN (bY c s0 l)) ≠ -2) (t:nB c zw s0 (l++[qb c zw (bN (bY c s0 l))]) l2):nB c zw s0 l l2
inductive Fw (c:ax) (zw:Int) (s0:aG):List Int→List Int→List Int→Prop where
 | done {l:List Int}:Fw c zw s0 [] l l
 | stop {o:Int} {os l:List Int} (h:(bY c s0 l).day=c.aX):Fw c zw s0 (o::os) l l
 | own {o:Int} {os l l1 l2:List Int} (h:(bY c s0 l).day≠c.aX) (ha:nB c zw s0 l l1) (hd:xa c (bY c s0 l1) o=zw) (t:Fw c zw s0 os l1 l2):Fw c zw s0 (o::os) l l2
 | BG {o:Int} {os l l1 l2:List Int} (h:(bY c s0 l).day≠c.aX) (ha:nB c zw s0 l l1) (hd:xa c (bY c s0 l1) o≠zw) (t:Fw c zw s0 os (l1++[o]) l2):Fw c zw s0 (o::os) l l2
section
variable {c:ax} {zw:Int} {s0:aG} {a:bT}
theorem KG (hc:c.Ok) {s:aG} (hv:VS c s) (h:qb c zw (bN s) ≠ -2):0≤qb c zw (bN s)∧qb c zw (bN s) < c.aK.length∧s.day < c.aX∧zz c zw (bN s)=true∧zz c zw (bN (zI c s (qb c zw (bN s))))=true∧(zI c s (qb c zw (bN s))).day=s.day:=by
 have hs:zz c zw (bN s)=true:=by
  cases e:zz c zw (bN s) with
  | true=>rfl
  | false=>exact absurd (by unfold qb;rw [e,Bool.and_false];rfl) h
 obtain ⟨h1,h2,_⟩:=KC (c:=c) (zw:=zw) (q:=bN s) rfl hs
 generalize qb c zw (bN s)=x at *
 rcases zO.1 h1 with ⟨_,e⟩ | ⟨_,e,_⟩ | ⟨hd,i,hi,_,e⟩
 ·exact absurd e h
 ·cases e
 ·subst e
  rw [xe c _ (by omega)] at h2
  have hd:s.day < c.aX:=hd
  refine ⟨by omega,by omega,hd,hs,h2,?_⟩
  obtain ⟨_,_,_,ha⟩:=ja hc hv (a:=(i:Int)) (by omega) (by omega) hd
  rcases ha i c.aK[i] rfl (ua hi) with ⟨_,_,e⟩ | ⟨_,e,_⟩
  ·rw [e]
  ·exact e
abbrev Any (s:aG):Prop:=True
theorem zfB (hc:c.Ok) (zw:Int) (cw:List Int) (oa:cw.length < 4611686018427387904):aq (JJ c zw cw) (fun r=>(r.2≠0∧r.1=[])∨(r.2=0∧∃ s0 a,qM c=some (s0,0)∧xn c zw=some (a,0)∧bD c zw (bN s0) a∧VS c s0∧dc c Any s0 r.1∧Fw c zw s0 cw [] r.1∧r.1.length≤4000∧∀ x∈cw,-1≤x∧x < c.aK.length)):=by
 unfold JJ
 obtain ⟨⟨a,e⟩,hB,hR⟩:=zk3 hc zw
 refine aq.az hB ?_
 refine aq.ite (fun _=>aq.some (.inl ⟨by simp,rfl⟩)) (fun ec => ?_)
 refine aq.bind (P:=fun o:Unit ⊕ Unit=>o=.inr ()∨(o=.inl ()∧∀ x∈cw,-1≤x∧x < c.aK.length)) (aq.dP (fun i _=>∀ (j:Nat) (hj:j < cw.length),j < i → -1≤cw[j]∧cw[j] < c.aK.length) oa (fun j _ h=>by omega) (fun i _ hi h => ?_) (fun _ h=>.inr ⟨rfl,fun x hx=>by obtain ⟨j,hj,rfl⟩:=ug hx;exact h j hj hj⟩)) ?_
 ·refine aq.az (zy (ua hi)) ?_
  refine aq.az (v:=(decide (cw[i] < -1)||decide ((c.aK.length:Int)≤cw[i]))) (by cases decide (cw[i] < -1)<;>rfl) ?_
  refine aq.ite (fun _=>aq.some (.inl rfl)) (fun hq=>aq.some fun j hj hji => ?_)
  simp only [Bool.or_eq_false_iff,decide_eq_false_iff_not] at hq
  by_cases e2:j=i
  ·subst e2;omega
  ·exact h j hj (by omega)
 rintro _ (rfl | ⟨rfl,BH⟩)
 ·exact aq.some (.inl ⟨by simp,rfl⟩)
 simp only [uw]
 rcases hR with ⟨he,_⟩ | ⟨he,s0,hst,fY,A⟩
 ·simp only at he
  refine aq.az (v:=true) (by rw [show (((a,e):bT×Int).2 == 0)=false from beq_eq_false_iff_ne.2 he];rfl) ?_
  exact aq.ite (fun _=>aq.some (.inl ⟨by simp,rfl⟩)) (fun h=>by cases h)
 simp only at he A
 subst he
 refine aq.az (v:=decide (4000 < (cw.length:Int))) rfl ?_
 refine aq.ite (fun _=>aq.some (.inl ⟨by simp,rfl⟩)) (fun _ => ?_)
 refine aq.az (JR hc A) ?_
 refine aq.az (W8 hc A) ?_
 have BI:∀ (j:Nat) (hj:j < a.aU.length),ze (a.aU.map (qb c zw)) (j:Int)=some (qb c zw a.aU[j]):=fun j hj=>zy (by rw [uq,ua hj];rfl)
 have hp:=A.pos
 have BJ:a.aU[0]=bN s0:=by have:=A.F.first;rw [ua hp] at this;exact Option.some.inj this
 refine aq.bind (P:=fun o:List Int ⊕ Unit=>(∃ l,o=.inl l∧dc c Any s0 l∧Fw c zw s0 cw [] l∧l.length≤4000)∨o=.inr ()) ?_ ?_
 ·refine aq.bind (P:=fun o:(List Int×Int) ⊕ (List Int ⊕ Unit)=>(∃ x,o=.inl x∧dc c Any s0 x.1∧Fw c zw s0 cw [] x.1∧x.1.length≤4000)∨(∃ l,o=.inr (.inl l)∧dc c Any s0 l∧Fw c zw s0 cw [] l∧l.length≤4000)∨o=.inr (.inr ()))
   (aq.dP (fun i x=>dc c Any s0 x.1∧x.1.length≤4000∧(∃ j,∃ hj:j < a.aU.length,x.2=(j:Int)∧a.aU[j]=bN (bY c s0 x.1))∧∀ l2,Fw c zw s0 (cw.drop i) x.1 l2→Fw c zw s0 cw [] l2) oa
    ⟨.nil trivial,by simp,⟨0,hp,rfl,BJ⟩,fun l2 h=>h⟩ (fun i x hi hx => ?_) (fun x hx => ?_)) ?_
  ·obtain ⟨l,eO⟩:=x
   obtain ⟨ht,hl,⟨j,hj,nK,td⟩,pX⟩:=hx
   simp only at ht hl nK td pX ⊢
   subst nK
   have oQ:cw.drop i=cw[i]::cw.drop (i+1):=List.drop_eq_getElem_cons hi
   have hvl:=ht.Af hc fY
   refine aq.az (zy (ua hi)) ?_
   refine aq.az (zy (ua hj)) ?_
   rw [td]
   refine aq.ite (fun h => ?_) (fun h => ?_)
   ·have fD:(bY c s0 l).day=c.aX:=by simpa [bN] using h
    exact aq.some (.inr (.inl ⟨l,rfl,ht,pX l (by rw [oQ];exact .stop fD),hl⟩))
   have fD:(bY c s0 l).day≠c.aX:=by
    intro e
    have h:((bY c s0 l).day == c.aX)=false:=h
    rw [e,beq_self_eq_true] at h;cases h
   have lK:(bY c s0 l).day < c.aX:=by have:=hvl.day;omega
   refine aq.bind (P:=fun v:List Int×Int=>dc c Any s0 v.1∧v.1.length≤4001∧(∃ j,∃ hj:j < a.aU.length,v.2=(j:Int)∧a.aU[j]=bN (bY c s0 v.1))∧(bY c s0 v.1).day < c.aX∧(nB c zw s0 l v.1∨4000 < v.1.length)) ?_ ?_
   ·refine aq.bind (P:=fun v:List Int×Int=>dc c Any s0 v.1∧v.1.length≤4001∧(∃ j,∃ hj:j < a.aU.length,v.2=(j:Int)∧a.aU[j]=bN (bY c s0 v.1))∧(bY c s0 v.1).day < c.aX∧(nB c zw s0 l v.1∨4000 < v.1.length))
     (aq.iter (fun v:List Int×Int=>dc c Any s0 v.1∧v.1.length≤4001∧(∃ j,∃ hj:j < a.aU.length,v.2=(j:Int)∧a.aU[j]=bN (bY c s0 v.1))∧(bY c s0 v.1).day < c.aX∧∀ l2,nB c zw s0 v.1 l2→nB c zw s0 l l2) (fun v=>5000 - v.1.length)
      ⟨ht,by show l.length≤4001;omega,⟨j,hj,rfl,td⟩,lK,fun l2 h=>h⟩ (fun v hv => ?_)) (fun v hv=>aq.some hv)
    obtain ⟨l1,at1⟩:=v
    obtain ⟨pY,gJ,⟨j1,fM,oR,lq⟩,iG,eK⟩:=hv
    simp only at pY gJ oR lq iG eK ⊢
    subst oR
    have gD:=pY.Af hc fY
    have hI:=BI j1 fM
    rw [lq] at hI
    refine aq.az (v:=(!(qb c zw (bN (bY c s0 l1)) == -2)&&decide ((l1.length:Int)≤4000))) ?_ ?_
    ·rw [hI]
     simp only [aV]
     cases (qb c zw (bN (bY c s0 l1)) == -2)<;>rfl
    refine aq.ite (fun hq => ?_) (fun hq=>aq.some ⟨pY,gJ,⟨j1,fM,rfl,lq⟩,iG,?_⟩)
    ·simp only [ui,uh,beq_eq_false_iff_ne,decide_eq_true_eq] at hq
     obtain ⟨b0,b1,_,_,_,b2⟩:=KG hc gD hq.1
     refine aq.az hI ?_
     refine aq.bind (EZ hc A fM lq iG (by omega) b1 (by omega)) ?_
     rintro ⟨l3,at3⟩ ⟨g1,j3,E6,g2,g3⟩
     simp only at g1 g2 g3
     subst g1 g2
     refine aq.some ⟨⟨pY.snoc iG (by omega) b1 trivial,by show (l1++[_]).length≤4001;simp;omega,⟨j3,E6,rfl,by rw [jh];exact g3⟩,by rw [jh,b2];exact iG,fun l2 h=>eK l2 (.go hq.1 h)⟩,by show 5000 - (l1++[_]).length < 5000 - l1.length;simp;omega⟩
    ·by_cases e:qb c zw (bN (bY c s0 l1)) = -2
     ·exact .inl (eK l1 (.stop e))
     ·right
      rw [beq_eq_false_iff_ne.2 e] at hq
      have:¬ ((l1.length:Int)≤4000):=fun h=>by rw [decide_eq_true h] at hq;cases hq
      show 4000 < l1.length
      omega
   rintro ⟨l1,at1⟩ ⟨pY,gJ,⟨j1,fM,oR,lq⟩,iG,eK⟩
   simp only at pY gJ oR lq iG eK ⊢
   subst oR
   have gD:=pY.Af hc fY
   have ho:=BH _ (uc hi)
   refine aq.bind (P:=fun v:List Int×Int=>dc c Any s0 v.1∧(∃ j,∃ hj:j < a.aU.length,v.2=(j:Int)∧a.aU[j]=bN (bY c s0 v.1))∧(4000 < v.1.length∨∀ l2,Fw c zw s0 (cw.drop (i+1)) v.1 l2→Fw c zw s0 (cw.drop i) l l2)) ?_ ?_
   ·refine aq.az (zy (ua fM)) ?_
    rw [lq]
    refine aq.az (Mu gD ho.1 ho.2) ?_
    refine aq.ite (fun hq=>aq.some ⟨pY,⟨j1,fM,rfl,lq⟩,?_⟩) (fun hq => ?_)
    ·rcases eK with h | h
     ·exact .inr fun l2 h2=>by rw [oQ];exact .own fD h (by simpa using hq) h2
     ·exact .inl h
    ·refine aq.bind (EZ hc A fM lq iG ho.1 ho.2 (by omega)) ?_
     rintro ⟨l3,at3⟩ ⟨g1,j3,E6,g2,g3⟩
     simp only at g1 g2 g3
     subst g1 g2
     refine aq.some ⟨pY.snoc iG ho.1 ho.2 trivial,⟨j3,E6,rfl,by rw [jh];exact g3⟩,?_⟩
     rcases eK with h | h
     ·exact .inr fun l2 h2=>by rw [oQ];exact .BG fD h (by simpa using hq) h2
     ·exact .inl (by show 4000 < (l1++[_]).length;simp;omega)
   rintro ⟨l2,at2⟩ ⟨BC,nF,rR⟩
   simp only at BC nF rR ⊢
   refine aq.ite (fun _=>aq.some (.inr (.inr rfl))) (fun hq => ?_)
   have hq:=of_decide_eq_false hq
   refine aq.some ⟨BC,by show l2.length≤4000;omega,nF,fun l4 h4=>pX l4 ?_⟩
   rcases rR with h | h
   ·omega
   ·exact h l4 h4
  ·obtain ⟨ht,hl,_,pX⟩:=hx
   refine .inl ⟨x,rfl,ht,pX x.1 ?_,hl⟩
   rw [List.drop_length];exact .done
  ·rintro _ (⟨x,rfl,h⟩ | ⟨l,rfl,h⟩ | rfl)
   ·exact aq.some (.inl ⟨x.1,rfl,h⟩)
   ·exact aq.some (.inl ⟨l,rfl,h⟩)
   ·exact aq.some (.inr rfl)
 ·rintro _ (⟨l,rfl,h1,h2,h3⟩ | rfl)
  ·exact aq.some (.inr ⟨rfl,s0,a,hst,hB,A,fY,h1,h2,h3,BH⟩)
  ·exact aq.some (.inl ⟨by simp,rfl⟩)
end
end
end Go.Proofs.YtlpmnmbebkdocaaGreatDoor
