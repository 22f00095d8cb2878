/-
  region.Ranks: the queue.
  region.Ranks: all of it.
  A clause that has ended stays as it is; a breach stays a breach.
  RegionBreach: a breach is never left.
  What can be forced from a position, told without an arena.
  region.Safe and strategy's functions, told by positions.
  strategy.Advise: what it returns.
  Traces; what one step does when a party follows the advice.
  strategy.Follow: what it returns.
  trap.edges and trap.way: the shortest way to a state.
  trap's questions about clauses: dead, unused, opposed, clash.
  trap.clashes: what it returns.
  RegionForced: where there is a rank, the others can force a breach in as many moves.
  trap.play: the steps by which the others force a party into breach.
  trap.Find: what it returns.
  Functions of the program as the kernel reckons them: with fuel, and texts of small numbers. Printed by mkheads.py.
  The fixed example of the laws of layer 21: 'head' returns true. Printed by mkheads.py.
-/
import Derived.Test.YtlpmnmbebkdocaaGreatDoorTT12
namespace Go.Proofs.YtlpmnmbebkdocaaGreatDoor
open Go.RowKit
set_option linter.unusedSimpArgs false
set_option linter.unusedVariables false
set_option maxRecDepth 100000
section
section
variable {c:Zab} {Zaa:Int} {p:Zah} {a:ZaF}
theorem zaM {x:Int} {l:List Int} (nx:Int) (h:l.length≤4000):yp x l nx=some (l++[x]):=by
  unfold yp
  rw [jy (by simp;omega)];rfl
theorem W4 {x:Nat} {v:Int} {r l:List Int} {n:Nat} (nx:Int) (hx:x < n) (hr:r.length=n) (h:l.length≤4000):yq (x:Int) v r n l nx=some (l++[(x:Int)],r.set x v):=by
  unfold yq
  rw [zU hx]
  simp only [ZaI]
  rw [xO (by omega),zaM nx h];rfl
def Bnd (G:Gm) (r:Nat→Int) (m:Nat):Prop:=∀ i,i < G.n→r i≤m
theorem zgj (hc:c.Ok) (A:ArOk c Zaa p a) {r o:List Int} {P Q:List Nat} {u x:Nat} {cn:Nat→Nat} (nx:Int) (hr:r.length=(gm c a).n) (ho:o.length=(gm c a).n)
    (h:EInv (gm c a) (at_ r) (at_ o) P u Q cn) (hb:Bnd (gm c a) (at_ r) (P++u::Q).length) (hx:x < (gm c a).n) (hcn:cn x < ((gm c a).succ x).count u) :
    Ret (ZC (x:Int) (u:Int) o (gm c a).n r (gm c a).n a (cst (P++u::Q)) nx) (fun z=>z.1.length=(gm c a).n∧z.2.1.length=(gm c a).n∧∃ Q',z.2.2=cst (P++u::Q')∧EInv (gm c a) (at_ z.2.1) (at_ z.1) P u Q' (upd cn x (cn x+1))∧Bnd (gm c a) (at_ z.2.1) (P++u::Q').length):=by
  have hn:(gm c a).n≤1500:=A.F.inv.len
  have hroom:=h.room hx hcn
  have hop:=h.core.op x hx
  have hsl:=A.slen hc x hx
  have hcp:(((gm c a).succ x).countP (vk P))≤((gm c a).succ x).length:=List.countP_le_length
  have hKn:(P++u::Q).length≤(gm c a).n:=by
    have:=Qs (L2:=List.range (gm c a).n) h.core.nd (fun y hy=>List.mem_range.2 (h.core.lt y hy))
    rwa [List.length_range] at this
  obtain ⟨hu,hun,hru,_,_⟩:=h.core.split
  have hgu:=h.core.ge u hun
  have hgx:=h.core.ge x hx
  have hbu:=hb u hun
  have hw1:IntKind.i64.wrap (at_ o x - 1)=at_ o x - 1:=zY (by omega) (by omega)
  have hw2:IntKind.i64.wrap (at_ r u+1)=at_ r u+1:=zY (by omega) (by omega)
  have hso:at_ (o.set x (at_ o x - 1))=upd (at_ o) x (at_ o x - 1):=kB (by omega) _
  have hget:(o.set x (at_ o x - 1))[x]?=some (at_ o x - 1):=List.getElem?_set_self (by omega)
  have hown:(gm c a).own x=(a.Zaw[x]'(hx)).own:=by
    show (match a.Zaw[x]? with | some q=>q.own | none=>false)=_
    rw [List.getElem?_eq_getElem (show x < a.Zaw.length from hx)]
    rfl
  have hidx:ze a.Zaw (x:Int)=some (a.Zaw[x]'hx):=zl (List.getElem?_eq_getElem (show x < a.Zaw.length from hx))
  unfold ZC
  refine Ret.bindE (zU hx) ?_
  refine Ret.bindE (xO (by omega)) ?_
  rw [hw1]
  by_cases e1:at_ r x = -1
  · have e1b:(at_ r x == -1)=true:=by rw [e1];rfl
    by_cases e2:(gm c a).own x=false∨at_ o x - 1=0
    · refine Ret.bindE (v:=true) ?_ ?_
      · rw [zU hx]
        simp only [ZaI]
        rw [xO (by omega:x < r.length)]
        simp only [ZaI,e1b,cond_true,hidx]
        rw [←hown]
        rcases e2 with e2 | e2
        · rw [e2];rfl
        · rw [hget]
          simp only [ZaI,e2]
          cases (gm c a).own x<;>rfl
      · refine Ret.ite (fun _ => ?_) (fun h=>by cases h)
        refine Ret.bindE (zU hun) ?_
        refine Ret.bindE (xO (by omega)) ?_
        rw [hw2]
        refine Ret.bindE (W4 nx hx hr (by rw [yT];omega)) ?_
        refine Ret.some ⟨by simp [ho],by simp [hr],Q++[x],?_,?_,?_⟩
        · rw [show P++u::(Q++[x])=(P++u::Q)++[x] by simp];exact (JZ (P++u::Q) [x]).symm
        · rw [hso,kB (by omega)]
          exact h.settle A.closed hx hcn e1 e2
        · intro i hi
          simp only
          rw [kB (by omega)]
          have:=hb i hi
          unfold upd
          simp only [List.length_append,List.length_cons,List.length_nil] at this hbu ⊢
          split<;>omega
    · refine Ret.bindE (v:=false) ?_ ?_
      · rw [zU hx]
        simp only [ZaI]
        rw [xO (by omega:x < r.length)]
        simp only [ZaI,e1b,cond_true,hidx]
        rw [←hown]
        have e3:(gm c a).own x=true:=by
          cases hq:(gm c a).own x with
          | true=>rfl
          | false=>exact absurd (.inl hq) e2
        rw [e3,hget]
        simp only [ZaI,cond_true]
        rw [beq_eq_false_iff_ne.2 (fun h=>e2 (.inr h))]
      · refine Ret.ite (fun h=>by cases h) (fun _ => ?_)
        refine Ret.some ⟨by simp [ho],hr,Q,rfl,?_,hb⟩
        rw [hso]
        exact h.skip hx hcn (.inr ⟨by cases hq:(gm c a).own x with
          | true=>rfl
          | false=>exact absurd (.inl hq) e2,fun h=>e2 (.inr h)⟩)
  · have e1b:(at_ r x == -1)=false:=beq_eq_false_iff_ne.2 e1
    refine Ret.bindE (v:=false) ?_ ?_
    · rw [zU hx]
      simp only [ZaI]
      rw [xO (by omega:x < r.length)]
      simp only [ZaI,e1b,ZaH]
    · refine Ret.ite (fun h=>by cases h) (fun _ => ?_)
      refine Ret.some ⟨by simp [ho],hr,Q,rfl,?_,hb⟩
      rw [hso]
      exact h.skip hx hcn (.inl e1)
theorem zhQ {l:List Nat} {k:Nat} (hl:l.length≤4000) (hk:k≤l.length):xZ (cst l) (k:Int)=some (match l[k]? with | some u=>((u:Int),true,(k:Int)+1) | none=>(0,false,(k:Int))):=by
  unfold xZ
  rw [yT]
  by_cases e:k=l.length
  · rw [e,List.getElem?_eq_none (Nat.le_refl _)];simp
  · have h:k < l.length:=by omega
    have w1:IntKind.i64.wrap ((k:Int)+1)=(k:Int)+1:=zY (by omega) (by omega)
    have w2:IntKind.i64.wrap ((k:Int)+1 - 1)=(k:Int):=by rw [show (k:Int)+1 - 1=(k:Int) by omega];exact zY (by omega) (by omega)
    rw [beq_eq_false_iff_ne.2 (show (k:Int)≠(l.length:Int) by omega),w1,w2,List.getElem?_eq_getElem h]
    simp only [ZaH]
    rw [zl (l:=cst l) (i:=k) (e:=(l[k]:Int)) (by unfold cst;rw [List.getElem?_map,List.getElem?_eq_getElem h];rfl)]
    rfl
end
end
section
section
variable {c:Zab} {Zaa:Int} {p:Zah} {a:ZaF}
def xo (G:Gm) (i:Nat):Bool:=G.own i&&(!(G.lost i)&&(G.succ i).isEmpty)
def r2 (G:Gm) (i j:Nat):Int:=if G.lost j=true then 0 else if xo G j=true∧j < i then 1 else -1
def K2 (G:Gm) (i:Nat):List Nat:=(List.range G.n).filter G.lost++(List.range i).filter (xo G)
structure L3 (G:Gm) (i:Nat) (s:List Int×List Int):Prop where
  lr:s.1.length=G.n
  r:∀ j,j < G.n→at_ s.1 j=r2 G i j
  k:s.2=cst (K2 G i)
theorem zjB (G:Gm) (i:Nat):(K2 G i).length≤G.n+i:=by
  unfold K2
  rw [List.length_append]
  have h1:=List.length_filter_le G.lost (List.range G.n)
  have h2:=List.length_filter_le (xo G) (List.range i)
  rw [List.length_range] at h1 h2
  omega
theorem zeJ {G:Gm} {r o:Nat→Int} (hr:∀ j,j < G.n→r j=r2 G G.n j) (ho:∀ j,j < G.n→o j=((G.succ j).length:Int)):BInv G r o [] (K2 G G.n)∧Bnd G r (K2 G G.n).length:=by
  have tl:∀ j,xo G j=true→G.own j=true∧G.lost j=false∧G.succ j=[]:=fun j h=>by
    simpa [xo,Bool.and_eq_true,List.isEmpty_iff] using h
  have rl:∀ j,j < G.n→G.lost j=true→r j=0:=fun j hj h=>by rw [hr j hj];unfold r2;rw [if_pos h]
  have rt:∀ j,j < G.n→xo G j=true→r j=1:=fun j hj h=>by
    rw [hr j hj];unfold r2;rw [if_neg (by rw [(tl j h).2.1];simp),if_pos ⟨h,hj⟩]
  have rn:∀ j,j < G.n→G.lost j=false→xo G j=false→r j = -1:=fun j hj h h2=>by
    rw [hr j hj];unfold r2;rw [if_neg (by rw [h];simp),if_neg (by rw [h2];simp)]
  have three:∀ j,j < G.n→(G.lost j=true∧r j=0)∨(xo G j=true∧G.lost j=false∧r j=1)∨(G.lost j=false∧xo G j=false∧r j = -1):=fun j hj=>by
    cases h:G.lost j with
    | true=>exact .inl ⟨rfl,rl j hj h⟩
    | false=>cases h2:xo G j with
      | true=>exact .inr (.inl ⟨rfl,rfl,rt j hj h2⟩)
      | false=>exact .inr (.inr ⟨rfl,rfl,rn j hj h h2⟩)
  have hm:∀ j,j∈K2 G G.n↔j < G.n∧(G.lost j=true∨xo G j=true):=fun j=>by
    unfold K2
    rw [List.mem_append,List.mem_filter,List.mem_filter,List.mem_range]
    constructor
    · rintro (⟨h1,h2⟩ | ⟨h1,h2⟩)
      · exact ⟨h1,.inl h2⟩
      · exact ⟨h1,.inr h2⟩
    · rintro ⟨h1,h2 | h2⟩
      · exact .inl ⟨h1,h2⟩
      · exact .inr ⟨h1,h2⟩
  have hle:∀ x∈K2 G G.n,r x≤1∧0≤r x:=fun x hx=>by
    obtain ⟨h1,h2⟩:=(hm x).1 hx
    rcases three x h1 with ⟨_,h⟩ | ⟨_,_,h⟩ | ⟨h3,h4,h⟩
    · omega
    · omega
    · rw [h3,h4] at h2;simp at h2
  refine ⟨⟨⟨?_,fun x hx=>((hm x).1 hx).1,fun i hi => ?_,fun i hi => ?_,?_,fun i hi => ?_,fun i hi => ?_,fun i hi h1 h2 h3 => ?_,fun i hi h1 h2 h3 => ?_,fun i hi h1 h2 h3 => ?_,fun i hi h1 h2 h3=>⟨fun t ht h=>(by cases h),rfl⟩⟩,fun q Q' hq x hx => ?_⟩,fun i hi => ?_⟩
  · rw [List.nil_append]
    unfold K2
    refine List.nodup_append.2 ⟨List.nodup_range.sublist List.filter_sublist,List.nodup_range.sublist List.filter_sublist,fun x hx y hy e => ?_⟩
    subst e
    have h1:=(List.mem_filter.1 hx).2
    have h2:=(tl x (List.mem_filter.1 hy).2).2.1
    rw [h1] at h2;cases h2
  · rw [List.nil_append,hm i]
    rcases three i hi with ⟨h1,h⟩ | ⟨h1,_,h⟩ | ⟨h3,h4,h⟩
    · rw [h];simp [hi,h1]
    · rw [h];simp [hi,h1]
    · rw [h];simp [h3,h4]
  · rcases three i hi with ⟨_,h⟩ | ⟨_,_,h⟩ | ⟨_,_,h⟩<;>omega
  · rw [List.nil_append]
    unfold K2
    refine List.pairwise_append.2 ⟨?_,?_,fun x hx y hy => ?_⟩
    · refine List.pairwise_of_forall_mem_list fun x hx y hy => ?_
      have h1:=(List.mem_filter.1 hx);have h2:=(List.mem_filter.1 hy)
      rw [rl x (List.mem_range.1 h1.1) h1.2,rl y (List.mem_range.1 h2.1) h2.2];omega
    · refine List.pairwise_of_forall_mem_list fun x hx y hy => ?_
      have h1:=(List.mem_filter.1 hx);have h2:=(List.mem_filter.1 hy)
      rw [rt x (List.mem_range.1 h1.1) h1.2,rt y (List.mem_range.1 h2.1) h2.2];omega
    · have h1:=(List.mem_filter.1 hx);have h2:=(List.mem_filter.1 hy)
      rw [rl x (List.mem_range.1 h1.1) h1.2,rt y (List.mem_range.1 h2.1) h2.2];omega
  · rw [ho i hi]
    have:(G.succ i).countP (vk [])=(G.succ i).length:=List.countP_eq_length.2 fun x _=>by simp [vk]
    rw [this];simp
  · rcases three i hi with ⟨h1,h⟩ | ⟨_,h1,h⟩ | ⟨h1,_,h⟩<;>rw [h,h1]<;>simp
  · rcases three i hi with ⟨h4,h⟩ | ⟨h4,_,h⟩ | ⟨_,_,h⟩
    · rw [h2] at h4;cases h4
    · have h5:=(tl i h4).2.2
      rw [ho i hi,h5,h]
      exact ⟨rfl,fun t ht=>(by cases ht),.inl ⟨rfl,rfl⟩⟩
    · exact absurd h h3
  · rw [ho i hi]
    intro h5
    have h6:G.succ i=[]:=List.eq_nil_of_length_eq_zero (by omega)
    have h7:=rt i hi (by simp [xo,h1,h2,h6])
    omega
  · rcases three i hi with ⟨h4,h⟩ | ⟨h4,_,h⟩ | ⟨_,_,h⟩
    · rw [h2] at h4;cases h4
    · have h5:=(tl i h4).1;rw [h1] at h5;cases h5
    · exact absurd h h3
  · rw [List.nil_append] at hx
    have h1:=(hle x hx).1
    have h2:=(hle q (by rw [hq];simp)).2
    omega
  · rcases three i hi with ⟨_,h⟩ | ⟨h1,_,h⟩ | ⟨_,_,h⟩
    · omega
    · have:0 < (K2 G G.n).length:=List.length_pos_of_mem ((hm i).2 ⟨hi,.inr h1⟩)
      omega
    · omega
structure QI (G:Gm) (bef:List (List Int)) (s:Int×Bool×List Int×List Int×List Int×Int):Prop where
  lr:s.2.2.1.length=G.n
  lo:s.2.2.2.1.length=G.n
  inv:∃ P Q,BInv G (at_ s.2.2.1) (at_ s.2.2.2.1) P Q∧Bnd G (at_ s.2.2.1) (P++Q).length∧s.2.2.2.2.1=cst (P++Q)∧((s.2.1=false∧Q=[]∧s.2.2.2.2.2=(P.length:Int))∨(s.2.1=true∧∃ u Q',Q=u::Q'∧s.1=(u:Int)∧s.2.2.2.2.2=(P.length:Int)+1))
theorem W5 {l:List Nat} {k:Nat} (hk:k < l.length) (x:Nat):(l.take (k+1)).count x=upd (fun y=>(l.take k).count y) l[k] ((l.take k).count l[k]+1) x:=by
  rw [List.take_succ_eq_append_getElem hk,List.count_append]
  unfold upd
  by_cases e:x=l[k]
  · rw [if_pos e,e];simp
  · rw [if_neg e,List.count_cons_of_ne (fun h=>e h.symm)];simp
theorem zeK {l:List Nat} {k:Nat} (hk:k < l.length):(fun y=>(l.take (k+1)).count y)=upd (fun y=>(l.take k).count y) l[k] ((l.take k).count l[k]+1):=funext fun x=>W5 hk x
theorem zeL {G:Gm} {bef:List (List Int)} {P Q:List Nat} {r o:List Int} (hn:G.n≤1500) (hr:r.length=G.n) (ho:o.length=G.n) (h:BInv G (at_ r) (at_ o) P Q) (hb:Bnd G (at_ r) (P++Q).length) :
    ∃ z:Int×Bool×Int,xZ (cst (P++Q)) (P.length:Int)=some z∧QI G bef (z.1,z.2.1,r,o,cst (P++Q),z.2.2)∧((z.2.1=false∧z.2.2=(P.length:Int))∨(z.2.1=true∧z.2.2=(P.length:Int)+1))∧P.length≤G.n:=by
  have hK:(P++Q).length≤G.n:=by
    have:=Qs (L2:=List.range G.n) h.core.nd (fun y hy=>List.mem_range.2 (h.core.lt y hy))
    rwa [List.length_range] at this
  refine ⟨_,zhQ (by omega) (by simp),?_⟩
  cases Q with
  | nil=>
    rw [List.append_nil,List.getElem?_eq_none (Nat.le_refl _)]
    exact ⟨⟨hr,ho,P,[],h,hb,by rw [List.append_nil],.inl ⟨rfl,rfl,rfl⟩⟩,.inl ⟨rfl,rfl⟩,by simpa using hK⟩
  | cons u Q'=>
    rw [List.getElem?_append_right (Nat.le_refl _),Nat.sub_self]
    exact ⟨⟨hr,ho,P,u::Q',h,hb,rfl,.inr ⟨rfl,u,Q',rfl,rfl,rfl⟩⟩,.inr ⟨rfl,rfl⟩,by rw [List.length_append] at hK;omega⟩
theorem zeM (hc:c.Ok) (A:ArOk c Zaa p a):Ret (vr c a) (fun r=>r.length=a.Zaw.length∧yl (gm c a) (at_ r)∧∀ i,i < a.Zaw.length→at_ r i≤1500):=by
  have hn:a.Zaw.length≤1500:=A.F.inv.len
  have hgn:(gm c a).n=a.Zaw.length:=rfl
  unfold vr
  refine Ret.bindE (zaL hc A) ?_
  refine Ret.ite (fun _ => ?_) (fun h=>by cases h)
  refine Ret.bindE (VK hn (by omega)) ?_
  refine Ret.bindE (VK hn (by omega)) ?_
  refine Ret.bindE (VK hn (by omega)) ?_
  refine Ret.bind (P:=fun o:(List Int×List Int×List (List Int)×List Int) ⊕ Unit=>∃ s,o=.inl s∧L2 (gm c a) a.Zaw.length s) (Ret.forL (L2 (gm c a)) (by omega) ?_ (fun i s hi hs => ?_) (fun s h=>⟨s,rfl,h⟩)) ?_
  · refine ⟨by simp [hgn],by simp [hgn],⟨by simp [hgn],fun t ht=>⟨[],?_,by simp,fun x => ?_⟩⟩,fun j hj=>by omega,fun j hj=>by omega,rfl⟩
    · rw [List.getElem?_replicate,if_pos (by rw [←hgn];exact ht)];rfl
    · simp
  · obtain ⟨R,O,B,K⟩:=s
    obtain ⟨hlr,hlo,hbef,hr,ho,hk⟩:=hs
    simp only at hlr hlo hbef hr ho hk ⊢
    obtain ⟨T,hT,hM⟩:=A.mv hi
    have hTl:=A.len hc hi hT
    have hsucc:=A.succ hi hT
    have hlostE:(gm c a).lost i=jM c a.Zaw[i].state a.Zaa:=by
      show (match a.Zaw[i]? with | some q=>jM c q.state a.Zaa | none=>false)=_
      rw [List.getElem?_eq_getElem hi]
    refine Ret.bind (P:=fun v=>L2 (gm c a) (i+1) v) ?_ (fun v hv=>Ret.some hv)
    refine Ret.bindE (zl (List.getElem?_eq_getElem hi)) ?_
    refine Ret.bindE (zl hT) ?_
    refine Ret.bindE (zU hi) ?_
    refine Ret.bindE (xO (by omega)) ?_
    refine Ret.bindE (zU hi) ?_
    refine Ret.bindE (xO (by omega)) ?_
    refine Ret.bindE (zl hT) ?_
    refine Ret.bind (P:=fun o:List (List Int) ⊕ Unit=>∃ b,o=.inl b∧L1 (gm c a) i T.length b) (Ret.forL (fun k b=>L1 (gm c a) i k b) (by omega) hbef (fun k b hk2 hb => ?_) (fun b h=>⟨b,rfl,h⟩)) ?_
    · have hto:=A.to hi hT (List.getElem_mem hk2)
      refine Ret.bindE (zl (List.getElem?_eq_getElem hk2)) ?_
      have h1:(gm c a).succ i=T.map fun m=>m.to.toNat:=hsucc
      have h2:=hb.step (G:=gm c a) hn hi (by omega) (to:=T[k].to.toNat) (by rw [h1,List.getElem?_map,List.getElem?_eq_getElem hk2];rfl) (by rw [hgn];omega)
      rw [Int.toNat_of_nonneg hto.1] at h2
      exact Ret.bind h2 (fun v hv=>Ret.some hv)
    · rintro _ ⟨b,rfl,hb⟩
      simp only [Sum.elim_inl]
      have hb':=hb.next (by rw [hsucc,List.length_map]) hTl
      have hR1:at_ (R.set i (-1))=upd (at_ R) i (-1):=kB (by omega) _
      have hO1:at_ (O.set i (T.length:Int))=upd (at_ O) i (T.length:Int):=kB (by omega) _
      have hoo:∀ j,j < i+1→upd (at_ O) i (T.length:Int) j=(((gm c a).succ j).length:Int):=fun j hj=>by
        unfold upd
        by_cases e:j=i
        · rw [if_pos e,e,hsucc,List.length_map]
        · rw [if_neg e];exact ho j (by omega)
      have hrange:(List.range (i+1)).filter (gm c a).lost=(List.range i).filter (gm c a).lost++(bif (gm c a).lost i then [i] else []):=by
        rw [List.range_succ,List.filter_append]
        cases h:(gm c a).lost i<;>simp [h]
      refine Ret.bindE (zjA hc (A.F.inv.vs _ (List.getElem_mem hi)) a.Zaa) ?_
      refine Ret.ite (fun hl => ?_) (fun hl => ?_)
      · rw [←hlostE] at hl
        refine Ret.bindE (zU hi) ?_
        refine Ret.bindE (List.getElem?_set_self (by omega)) ?_
        have hK:K.length≤1500:=by
          rw [hk,yT]
          have:=List.length_filter_le (gm c a).lost (List.range i)
          rw [List.length_range] at this;omega
        refine Ret.bindE (zaM 0 (by omega)) ?_
        refine Ret.some ⟨by simp [hlr],by simp [hlo],hb',fun j hj => ?_,fun j hj => ?_,?_⟩
        · simp only
          rw [List.set_set,kB (by omega)]
          unfold upd
          by_cases e:j=i
          · rw [if_pos e,e,if_pos hl]
          · rw [if_neg e];exact hr j (by omega)
        · simp only;rw [hO1];exact hoo j hj
        · simp only;rw [hk,hrange,hl,cond_true,JZ];rfl
      · rw [←hlostE] at hl
        refine Ret.some ⟨by simp [hlr],by simp [hlo],hb',fun j hj => ?_,fun j hj => ?_,?_⟩
        · simp only
          rw [hR1]
          unfold upd
          by_cases e:j=i
          · rw [if_pos e,e,if_neg (by rw [hl];simp)]
          · rw [if_neg e];exact hr j (by omega)
        · simp only;rw [hO1];exact hoo j hj
        · simp only;rw [hk,hrange,hl,ZaH,List.append_nil]
  · rintro _ ⟨⟨R,O,B,K⟩,rfl,hlr,hlo,hbef,hr,ho,hk⟩
    simp only [Sum.elim_inl] at hlr hlo hbef hr ho hk ⊢
    refine Ret.bind (P:=fun o:(List Int×List Int) ⊕ Unit=>∃ s,o=.inl s∧L3 (gm c a) a.Zaw.length s) (Ret.forL (L3 (gm c a)) (by omega) ?_ (fun i s hi hs => ?_) (fun s h=>⟨s,rfl,h⟩)) ?_
    · refine ⟨hlr,fun j hj => ?_,?_⟩
      · rw [hr j hj];unfold r2
        split
        · rfl
        · rw [if_neg (by omega)]
      · simp only;rw [hk];unfold K2;rw [List.range_zero,List.filter_nil,List.append_nil];rfl
    · obtain ⟨R1,K1⟩:=s
      obtain ⟨h1,h2,h3⟩:=hs
      simp only at h1 h2 h3 ⊢
      have hown:(gm c a).own i=a.Zaw[i].own:=by
        show (match a.Zaw[i]? with | some q=>q.own | none=>false)=_
        rw [List.getElem?_eq_getElem hi]
      have hsame:xo (gm c a) i=false→L3 (gm c a) (i+1) (R1,K1):=fun ht=>by
        refine ⟨h1,fun j hj => ?_,?_⟩
        · simp only;rw [h2 j hj];unfold r2
          split
          · rfl
          · by_cases e:j=i
            · subst e;rw [if_neg (by rw [ht];simp),if_neg (by rw [ht];simp)]
            · by_cases e2:xo (gm c a) j=true∧j < i
              · rw [if_pos e2,if_pos ⟨e2.1,by omega⟩]
              · rw [if_neg e2,if_neg (fun h=>e2 ⟨h.1,by have:=h.2;omega⟩)]
        · simp only;rw [h3];unfold K2;rw [List.range_succ,List.filter_append];simp [ht]
      refine Ret.bind (P:=fun v=>L3 (gm c a) (i+1) v) ?_ (fun v hv=>Ret.some hv)
      refine Ret.bindE (zl (List.getElem?_eq_getElem hi)) ?_
      have hv3:(bif a.Zaw[i].own then (Option.bind (zk a.Zaw.length (i:Int)) fun k7=>(Option.bind (O[k7]?) fun e9=>(bif (e9 == 0) then (Option.bind (zk a.Zaw.length (i:Int)) fun k8=>(Option.bind (R1[k8]?) fun e10=>some (e10 == (-1)))) else some false))) else some false)=some (xo (gm c a) i):=by
        rw [zU hi]
        simp only [ZaI]
        rw [xO (by omega:i < O.length),xO (by omega:i < R1.length)]
        simp only [ZaI]
        rw [ho i hi,h2 i hi,←hown]
        unfold xo r2
        cases e1:(gm c a).own i with
        | false=>rfl
        | true=>
          cases e2:(gm c a).succ i with
          | cons x l=>
            rw [beq_eq_false_iff_ne.2 (by simp;omega)];simp
          | nil=>
            cases e3:(gm c a).lost i with
            | true=>rfl
            | false=>simp
      refine Ret.bindE hv3 ?_
      refine Ret.ite (fun ht => ?_) (fun ht=>Ret.some (hsame ht))
      have hK1:K1.length≤4000:=by
        rw [h3,yT]
        have:=zjB (gm c a) i
        omega
      refine Ret.bindE (W4 0 hi h1 hK1) ?_
      refine Ret.some ⟨by simp [h1],fun j hj => ?_,?_⟩
      · simp only
        rw [kB (by omega)]
        unfold upd
        by_cases e:j=i
        · subst e
          have h4:(gm c a).lost j=false:=by
            simp only [xo,Bool.and_eq_true,Bool.not_eq_true'] at ht;exact ht.2.1
          rw [if_pos rfl];unfold r2;rw [if_neg (by rw [h4];simp),if_pos ⟨ht,by omega⟩]
        · rw [if_neg e,h2 j hj];unfold r2
          split
          · rfl
          · by_cases e2:xo (gm c a) j=true∧j < i
            · rw [if_pos e2,if_pos ⟨e2.1,by omega⟩]
            · rw [if_neg e2,if_neg (fun h=>e2 ⟨h.1,by have:=h.2;omega⟩)]
      · simp only;rw [h3];unfold K2;rw [List.range_succ,List.filter_append,←List.append_assoc,JZ];simp [ht,cst]
    · rintro _ ⟨⟨R1,K1⟩,rfl,h1,h2,h3⟩
      simp only [Sum.elim_inl] at h1 h2 h3 ⊢
      obtain ⟨hB,hbd⟩:=zeJ (G:=gm c a) (r:=at_ R1) (o:=at_ O) h2 ho
      have hQ0:=zeL (bef:=B) (P:=[]) hn h1 hlo hB (by rw [List.nil_append];exact hbd)
      refine Ret.bind (P:=fun v:List Int=>v.length=(gm c a).n∧yl (gm c a) (at_ v)∧∀ i,i < (gm c a).n→at_ v i≤1500) ?_ ?_
      · obtain ⟨z,hz,hq,_⟩:=hQ0
        have hK1:K1=cst ([]++K2 (gm c a) (gm c a).n):=by rw [h3,List.nil_append];rfl
        rw [hK1]
        refine Ret.bindE hz ?_
        refine Ret.bind (P:=fun y:List Int=>y.length=(gm c a).n∧yl (gm c a) (at_ y)∧∀ i,i < (gm c a).n→at_ y i≤1500) (Ret.iter (QI (gm c a) B) (fun s=>2*((gm c a).n+2 - s.2.2.2.2.2.toNat)+(bif s.2.1 then 1 else 0)) hq (fun s hs => ?_)) (fun y hy=>Ret.some hy)
        obtain ⟨to,ok,R2,O2,K3,nx⟩:=s
        obtain ⟨g1,g2,P,Q,g3,g4,g5,g6⟩:=hs
        simp only at g1 g2 g3 g4 g5 g6 ⊢
        have hKn:(P++Q).length≤(gm c a).n:=by
          have:=Qs (L2:=List.range (gm c a).n) g3.core.nd (fun y hy=>List.mem_range.2 (g3.core.lt y hy))
          rwa [List.length_range] at this
        rcases g6 with ⟨rfl,rfl,g7⟩ | ⟨rfl,u,Q',rfl,rfl,rfl⟩
        · refine Ret.ite (fun h=>by cases h) (fun _ => ?_)
          exact Ret.some ⟨g1,(g3.done A.closed).ok A.closed,fun i hi=>by have:=g4 i hi;omega⟩
        · refine Ret.ite (fun _ => ?_) (fun h=>by cases h)
          have E:=g3.enter
          obtain ⟨_,hun,_⟩:=E.core.split
          obtain ⟨l,l1,l2,l3⟩:=hbef.row u hun
          have hcount:∀ x,x < (gm c a).n→l.count x=((gm c a).succ x).count u:=fun x hx=>by rw [l3 x,if_pos (by rw [←hgn];exact hx)]
          have hlmem:∀ x∈l,x < (gm c a).n:=fun x hx=>by
            have h5:0 < l.count x:=List.count_pos_iff.2 hx
            rw [l3 x] at h5
            split at h5
            · rename_i h6;exact h6
            · split at h5
              · simp at h5
              · omega
          refine Ret.bindE (zU hun) ?_
          refine Ret.bindE l1 ?_
          refine Ret.bind (P:=fun o:(List Int×List Int×List Int) ⊕ Unit=>∃ s5,o=.inl s5∧s5.1.length=(gm c a).n∧s5.2.1.length=(gm c a).n∧∃ Q2,s5.2.2=cst (P++u::Q2)∧EInv (gm c a) (at_ s5.1) (at_ s5.2.1) P u Q2 (fun y=>l.count y)∧Bnd (gm c a) (at_ s5.1) (P++u::Q2).length) ?_ ?_
          · rw [yT]
            refine Ret.forL (fun k s5=>s5.1.length=(gm c a).n∧s5.2.1.length=(gm c a).n∧∃ Q2,s5.2.2=cst (P++u::Q2)∧EInv (gm c a) (at_ s5.1) (at_ s5.2.1) P u Q2 (fun y=>(l.take k).count y)∧Bnd (gm c a) (at_ s5.1) (P++u::Q2).length) (by omega) ⟨g1,g2,Q',g5,by simpa using E,g4⟩ (fun k s5 hk hs5 => ?_) (fun s5 h=>⟨s5,rfl,by rw [List.take_length] at h;exact h⟩)
            obtain ⟨R4,O4,K4⟩:=s5
            obtain ⟨i1,i2,Q2,i3,i4,i5⟩:=hs5
            simp only at i1 i2 i3 i4 i5 ⊢
            have hx:=hlmem _ (List.getElem_mem hk)
            refine Ret.bindE (zl (e:=(l[k]:Int)) (by unfold cst;rw [List.getElem?_map,List.getElem?_eq_getElem hk];rfl)) ?_
            rw [i3]
            refine Ret.bind (zgj hc A _ i1 i2 i4 i5 hx ?_) (fun z hz => ?_)
            · have h6:=W5 hk l[k]
              unfold upd at h6
              rw [if_pos rfl] at h6
              have h7:(l.take (k+1)).count l[k]≤l.count l[k]:=(List.take_sublist _ _).count_le _
              rw [hcount _ hx] at h7
              show (l.take k).count l[k] < _
              omega
            · obtain ⟨j1,j2,Q3,j3,j4,j5⟩:=hz
              refine Ret.some ⟨j2,j1,Q3,j3,?_,j5⟩
              simp only
              rw [zeK hk];exact j4
          · rintro _ ⟨⟨R4,O4,K4⟩,rfl,i1,i2,Q2,i3,i4,i5⟩
            simp only [Sum.elim_inl] at i1 i2 i3 i4 i5 ⊢
            have hB2:=i4.leave hcount
            have hPQ:P++[u]++Q2=P++u::Q2:=by simp
            obtain ⟨z2,hz2,hq2,hz3,hz4⟩:=zeL (bef:=B) (P:=P++[u]) (Q:=Q2) hn i1 i2 hB2 (by rw [hPQ];exact i5)
            rw [hPQ] at hz2 hq2
            rw [i3]
            have hnx:((P++[u]).length:Int)=(P.length:Int)+1:=by simp
            rw [hnx] at hz2
            refine Ret.bindE hz2 ?_
            refine Ret.some ⟨hq2,?_⟩
            simp only [cond_true]
            rw [List.length_append] at hz3 hz4
            simp only [List.length_cons,List.length_nil] at hz3 hz4
            rcases hz3 with ⟨e1,e2⟩ | ⟨e1,e2⟩
            · rw [e1,e2,ZaH];omega
            · rw [e1,e2,cond_true];omega
      · intro v hv
        refine Ret.bindE (x3 (hgn.symm.trans hv.1.symm)) ?_
        exact Ret.some hv
end
end
theorem StartP.get {c:Zab} {hs:List Int} {ms r:List zw} (h:StartP c hs ms r) {i:Nat} {m:zw} (hi:i < c.Zae.length) (hm:ms[i]?=some m) (h0:m.Zan≠0):r[i]?=some m:=by
  have hl:i < r.length:=by rw [h.ok.1];exact hi
  rw [List.getElem?_eq_getElem hl]
  rcases h.rel i m r[i] hm (List.getElem?_eq_getElem hl) with e | ⟨e,_⟩
  · rw [e]
  · exact absurd e h0
theorem zbm (c:Zab) (q:Zah):target c q (-2)={state:=q.state,own:=false}:=if_pos rfl
theorem zbn (c:Zab) (q:Zah) {m:Int} (h : -1≤m):target c q m={state:=qp c q.state m,own:=true}:=if_neg (by omega)
theorem zgk {c:Zab} {Zaa:Int} {p:Zah} {r:ZaF×Int} (h:xY c Zaa p=some r) (hr:r.2≠0):r.1=W3:=by
  unfold xY at h
  obtain ⟨b,_,h⟩:=jL h
  cases b with
  | false=>cases h;rfl
  | true=>
    rw [cond_true] at h
    obtain ⟨_,_,h⟩:=jL h
    obtain ⟨_,_,h⟩:=jL h
    obtain ⟨o,_,h⟩:=jL h
    cases o with
    | inl s=>cases h;exact absurd rfl hr
    | inr u=>cases h;rfl
theorem zeN {c:Zab} {Zaa:Int} {r:ZaF×Int} (h:js c Zaa=some r) (hr:r.2≠0):r.1=W3:=by
  unfold js at h
  obtain ⟨s,_,h⟩:=jL h
  cases hs:(s.2 == 0) with
  | true=>
    rw [hs,cond_true] at h
    obtain ⟨f,hf,h⟩:=jL h
    cases h
    exact zgk hf hr
  | false=>rw [hs] at h;cases h;rfl
def zjC (c:Zab) (Zaa:Int) (r:ZaF×Int):Prop:=(r.2≠0∧r.1=W3)∨(r.2=0∧∃ s0,qx c=some (s0,0)∧VS c s0∧ArOk c Zaa {state:=s0,own:=true} r.1)
theorem zhR {c:Zab} (hc:c.Ok) (Zaa:Int):Ret (js c Zaa) (zjC c Zaa):=by
  obtain ⟨r,hr,h⟩:=zeG hc Zaa
  refine ⟨r,hr,?_⟩
  rcases h with h | ⟨h,s0,h1,h2,h3,h4,h5,h6⟩
  · exact .inl ⟨h,zeN hr h⟩
  · exact .inr ⟨h,s0,h1,h2,h3,h4,h5,h6⟩
section
section
variable {c:Zab} {Zaa:Int} {p:Zah} {a:ZaF}
theorem ArOk.lost (A:ArOk c Zaa p a) {i:Nat} (hi:i < a.Zaw.length):(gm c a).lost i=jM c a.Zaw[i].state Zaa:=by
  show (match a.Zaw[i]? with | some q=>jM c q.state a.Zaa | none=>false)=_
  rw [List.getElem?_eq_getElem hi,A.pa]
theorem ArOk.own (A:ArOk c Zaa p a) {i:Nat} (hi:i < a.Zaw.length):(gm c a).own i=a.Zaw[i].own:=by
  show (match a.Zaw[i]? with | some q=>q.own | none=>false)=_
  rw [List.getElem?_eq_getElem hi]
theorem ArOk.pos (A:ArOk c Zaa p a):0 < a.Zaw.length:=(List.getElem?_eq_some_iff.1 A.F.first).1
theorem ArOk.tgt (A:ArOk c Zaa p a) {i:Nat} (hi:i < a.Zaw.length) {T:List Zar} (hT:a.moves[i]?=some T) {m:Zar} (hm:m∈T) :
    m.step∈zE c Zaa a.Zaw[i]∧0≤m.to∧∃ h:m.to.toNat < a.Zaw.length,a.Zaw[m.to.toNat]=target c a.Zaw[i] m.step:=by
  obtain ⟨T',h1,h2,h3⟩:=A.mv hi
  rw [hT] at h1;cases h1
  obtain ⟨h4,h5⟩:=h3 m hm
  obtain ⟨h6,h7⟩:=List.getElem?_eq_some_iff.1 h5
  exact ⟨by rw [←h2];exact List.mem_map.2 ⟨m,hm,rfl⟩,h4,h6,h7⟩
theorem ArOk.ne (A:ArOk c Zaa p a) {i:Nat} (hi:i < a.Zaw.length) {T:List Zar} (hT:a.moves[i]?=some T) (ho:a.Zaw[i].own=true):T≠[]:=by
  obtain ⟨T',h1,h2,_⟩:=A.mv hi
  rw [hT] at h1;cases h1
  intro e
  subst e
  have:(-2:Int)∈zE c Zaa a.Zaw[i]:=wD.2 (.inl ⟨ho,rfl⟩)
  rw [←h2] at this;cases this
theorem Jr {G:Gm} {r:Nat→Int} (h:yl G r) {i:Nat} (hi:i < G.n):r i=0↔G.lost i=true:=by
  have h0:=(h i hi).2 0
  have h1:=(h i hi).1
  constructor
  · intro e;exact h0.1 ⟨by omega,by omega⟩
  · intro e;have:=h0.2 e;omega
end
end
section
def AttrP (c:Zab) (Zaa:Int):Nat→Zah→Prop
  | 0,q=>jM c q.state Zaa=true
  | k+1,q=>jM c q.state Zaa=true∨(q.own=true∧∀ m∈zE c Zaa q,AttrP c Zaa k (target c q m))∨(q.own=false∧∃ m∈zE c Zaa q,AttrP c Zaa k (target c q m))
def zcY (c:Zab) (Zaa:Int) (q:Zah):Prop:=∀ k,¬ AttrP c Zaa k q
theorem AttrP.zero {c:Zab} {Zaa:Int} {q:Zah} (h:jM c q.state Zaa=true):∀ k,AttrP c Zaa k q
  | 0=>h
  | k+1=>.inl h
theorem AttrP.succ1 {c:Zab} {Zaa:Int}:∀ {k:Nat} {q:Zah},AttrP c Zaa k q→AttrP c Zaa (k+1) q
  | 0,q,h=>.inl h
  | k+1,q,h=>by
    rcases h with h | ⟨h1,h2⟩ | ⟨h1,t,h2,h3⟩
    · exact .inl h
    · exact .inr (.inl ⟨h1,fun t ht=>(h2 t ht).succ1⟩)
    · exact .inr (.inr ⟨h1,t,h2,h3.succ1⟩)
theorem AttrP.mono {c:Zab} {Zaa:Int} {k k':Nat} {q:Zah} (hk:k≤k') (h:AttrP c Zaa k q):AttrP c Zaa k' q:=by
  induction hk with
  | refl=>exact h
  | step _ ih=>exact ih.succ1
section
variable {c:Zab} {Zaa:Int} {p:Zah} {a:ZaF}
theorem zeO (A:ArOk c Zaa p a):∀ (k i:Nat) (hi:i < a.Zaw.length),Attr (gm c a) k i↔AttrP c Zaa k a.Zaw[i]
  | 0,i,hi=>by show (gm c a).lost i=true↔_;rw [A.lost hi];rfl
  | k+1,i,hi=>by
    obtain ⟨T,hT,hst,_⟩:=A.mv hi
    have hs:=A.succ hi hT
    have go:∀ m∈T,(Attr (gm c a) k m.to.toNat↔AttrP c Zaa k (target c a.Zaw[i] m.step)):=fun m hm=>by
      obtain ⟨_,_,t3,t4⟩:=A.tgt hi hT hm
      rw [zeO A k _ t3,t4]
    have hall:(∀ t∈(gm c a).succ i,Attr (gm c a) k t)↔∀ m∈zE c Zaa a.Zaw[i],AttrP c Zaa k (target c a.Zaw[i] m):=by
      rw [hs,←hst]
      constructor
      · intro h x hx
        obtain ⟨m,hm,rfl⟩:=List.mem_map.1 hx
        exact (go m hm).1 (h _ (List.mem_map.2 ⟨m,hm,rfl⟩))
      · intro h x hx
        obtain ⟨m,hm,rfl⟩:=List.mem_map.1 hx
        exact (go m hm).2 (h _ (List.mem_map.2 ⟨m,hm,rfl⟩))
    have hex:(∃ t∈(gm c a).succ i,Attr (gm c a) k t)↔∃ m∈zE c Zaa a.Zaw[i],AttrP c Zaa k (target c a.Zaw[i] m):=by
      rw [hs,←hst]
      constructor
      · rintro ⟨x,hx,h⟩
        obtain ⟨m,hm,rfl⟩:=List.mem_map.1 hx
        exact ⟨_,List.mem_map.2 ⟨m,hm,rfl⟩,(go m hm).1 h⟩
      · rintro ⟨x,hx,h⟩
        obtain ⟨m,hm,rfl⟩:=List.mem_map.1 hx
        exact ⟨_,List.mem_map.2 ⟨m,hm,rfl⟩,(go m hm).2 h⟩
    show ((gm c a).lost i=true∨((gm c a).own i=true∧∀ t∈(gm c a).succ i,Attr (gm c a) k t)∨((gm c a).own i=false∧∃ t∈(gm c a).succ i,Attr (gm c a) k t))↔_
    rw [A.lost hi,A.own hi,hall,hex]
    rfl
def RankP (c:Zab) (Zaa:Int) (q:Zah) (x:Int):Prop := -1≤x∧∀ k:Nat,(x ≠ -1∧x≤k)↔AttrP c Zaa k q
theorem zjD (A:ArOk c Zaa p a) {r:Nat→Int} (hr:yl (gm c a) r) {i:Nat} (hi:i < a.Zaw.length):RankP c Zaa a.Zaw[i] (r i):=
  ⟨(hr i hi).1,fun k=>((hr i hi).2 k).trans (zeO A k i hi)⟩
theorem RankP.safe {q:Zah} {x:Int} (h:RankP c Zaa q x):x = -1↔zcY c Zaa q:=by
  constructor
  · intro e k hk
    exact ((h.2 k).2 hk).1 e
  · intro hs
    have:=h.1
    by_cases e:x = -1
    · exact e
    · exact absurd ((h.2 x.toNat).1 ⟨e,by omega⟩) (hs _)
end
end
section
open Classical in
noncomputable def xP (c:Zab) (Zaa:Int) (q:Zah):Bool:=decide (zcY c Zaa q)
theorem YH {c:Zab} {Zaa:Int} {q:Zah}:xP c Zaa q=true↔zcY c Zaa q:=by unfold xP;simp
section
variable {c:Zab} {Zaa:Int} {p:Zah} {a:ZaF}
noncomputable def zgl (c:Zab) (Zaa:Int) (q:Zah):Int:=
  bif q.own&&xP c Zaa q then ((zE c Zaa q).find? fun m=>xP c Zaa (target c q m)).getD (-2) else -2
end
end
section
def atO (s:Zac):Zah:={state:=s,own:=true}
section
variable {c:Zab} {Zaa:Int} {p:Zah} {a:ZaF}
end
end
section
noncomputable def stF (c:Zab) (s0:Zac) (l:List Int):Zac:=l.foldl (fun s x=>qp c s x) s0
theorem kC (c:Zab) (s0:Zac) (l:List Int) (x:Int):stF c s0 (l++[x])=qp c (stF c s0 l) x:=by unfold stF;rw [List.foldl_append];rfl
structure TrOk (c:Zab) (P:Zac→Prop) (s0:Zac) (l:List Int):Prop where
  first:P s0
  step:∀ (k:Nat) (hk:k < l.length),(stF c s0 (l.take k)).day < c.Zat ∧ -1≤l[k]∧l[k] < c.Zai.length∧P (stF c s0 (l.take (k+1)))
section
variable {c:Zab} {P:Zac→Prop} {s0:Zac} {l:List Int}
theorem TrOk.nil (h:P s0):TrOk c P s0 []:=⟨h,fun k hk=>by simp at hk⟩
theorem TrOk.snoc (h:TrOk c P s0 l) {x:Int} (hd:(stF c s0 l).day < c.Zat) (h0 : -1≤x) (h1:x < c.Zai.length) (hP:P (qp c (stF c s0 l) x)):TrOk c P s0 (l++[x]):=by
  refine ⟨h.first,fun k hk => ?_⟩
  rw [List.length_append] at hk
  simp only [List.length_cons,List.length_nil] at hk
  by_cases e:k=l.length
  · subst e
    have e1:(l++[x]).take l.length=l:=by simp
    have e2:(l++[x]).take (l.length+1)=l++[x]:=List.take_of_length_le (by simp)
    rw [e1,e2,kC]
    simp only [List.getElem_append_right (Nat.le_refl _),Nat.sub_self,List.getElem_cons_zero]
    exact ⟨hd,h0,h1,hP⟩
  · have hk2:k < l.length:=by omega
    rw [List.take_append_of_le_length (by omega),List.take_append_of_le_length (by omega),List.getElem_append_left hk2]
    exact h.step k hk2
theorem TrOk.take (h:TrOk c P s0 l) (n:Nat):TrOk c P s0 (l.take n):=by
  refine ⟨h.first,fun k hk => ?_⟩
  rw [List.length_take] at hk
  have h1:=h.step k (by omega)
  rw [List.take_take,List.take_take,show min k n=k by omega,show min (k+1) n=k+1 by omega,List.getElem_take]
  exact h1
theorem TrOk.all (h:TrOk c P s0 l):∀ k,k≤l.length→P (stF c s0 (l.take k))
  | 0,_=>by rw [List.take_zero];exact h.first
  | k+1,hk=>(h.step k (by omega)).2.2.2
theorem TrOk.vs (hc:c.Ok) (hv:VS c s0) (h:TrOk c P s0 l):∀ k,k≤l.length→VS c (stF c s0 (l.take k))
  | 0,_=>by rw [List.take_zero];exact hv
  | k+1,hk=>by
    obtain ⟨a1,a2,a3,_⟩:=h.step k (by omega)
    have h2:=TrOk.vs hc hv h k (by omega)
    rw [List.take_succ_eq_append_getElem (by omega),kC]
    exact (wC hc h2 a2 a3 a1).2.1
theorem TrOk.vsl (hc:c.Ok) (hv:VS c s0) (h:TrOk c P s0 l):VS c (stF c s0 l):=by
  have:=h.vs hc hv l.length (Nat.le_refl _)
  rwa [List.take_length] at this
end
def J0 (c:Zab) (s:Zac) (x:Int):Int:=if x = -1 then -1 else match c.Zai[x.toNat]? with
  | some a=>xN s.Zag a
  | none => -1
section
variable {c:Zab} {Zaa:Int} {p:Zah} {a:ZaF}
end
end
section
inductive Adv (c:Zab) (Zaa:Int) (s0:Zac):List Int→List Int→Prop where
  | stop {l:List Int} (h:zgl c Zaa (atO (stF c s0 l)) = -2):Adv c Zaa s0 l l
  | go {l l2:List Int} (h:zgl c Zaa (atO (stF c s0 l)) ≠ -2) (t:Adv c Zaa s0 (l++[zgl c Zaa (atO (stF c s0 l))]) l2):Adv c Zaa s0 l l2
inductive Fw (c:Zab) (Zaa:Int) (s0:Zac):List Int→List Int→List Int→Prop where
  | done {l:List Int}:Fw c Zaa s0 [] l l
  | stop {o:Int} {os l:List Int} (h:(stF c s0 l).day=c.Zat):Fw c Zaa s0 (o::os) l l
  | own {o:Int} {os l l1 l2:List Int} (h:(stF c s0 l).day≠c.Zat) (ha:Adv c Zaa s0 l l1) (hd:J0 c (stF c s0 l1) o=Zaa) (t:Fw c Zaa s0 os l1 l2):Fw c Zaa s0 (o::os) l l2
  | oth {o:Int} {os l l1 l2:List Int} (h:(stF c s0 l).day≠c.Zat) (ha:Adv c Zaa s0 l l1) (hd:J0 c (stF c s0 l1) o≠Zaa) (t:Fw c Zaa s0 os (l1++[o]) l2):Fw c Zaa s0 (o::os) l l2
section
variable {c:Zab} {Zaa:Int} {s0:Zac} {a:ZaF}
abbrev Any (s:Zac):Prop:=True
end
end
section
def txs (s:Zac):ByteArray:=⟨(qh s).toArray⟩
theorem Zl (s:Zac):qo {state:=s,own:=false}=zV false++qh s:=by simp [qo,qh,List.append_assoc]
theorem zhS {c:Zab} {s t:Zac} (hs:VS c s) (ht:VS c t) (h:txs s=txs t):s=t:=by
  have h2:=congrArg (fun b:ByteArray=>b.data.toList) h
  have h3:qh s=qh t:=by simpa [txs] using h2
  have:=zaI (p:={state:=s,own:=false}) (q:={state:=t,own:=false}) hs ht (by rw [Zl,Zl,h3])
  exact congrArg Zah.state this
theorem zbS {c:Zab} (hc:c.Ok) {s:Zac} (hs:VS c s):wx s=some (txs s):=by
  have h:=Jp hc (p:={state:=s,own:=false}) hs
  unfold jE at h
  split at h
  · rename_i hok
    unfold wx
    rw [if_pos]
    · rfl
    · simp only [okP,Bool.and_eq_true,decide_eq_true_eq] at hok
      simp only [zan,Bool.and_eq_true,decide_eq_true_eq]
      refine ⟨hok.1,?_⟩
      have:=hok.2
      rw [Zl,List.length_append] at this
      omega
  · cases h
theorem zk3 (l:List Int) (hl:l.length < 4611686018427387904):ko l=some l.reverse:=by
  refine Ret.eq ?_
  unfold ko
  refine Ret.bind (P:=fun r=>r=l.reverse) ?_ (fun v hv=>Ret.some hv)
  refine Ret.iter (fun s:Int×Int×List Int=>0≤s.1∧s.1+s.2.1=(l.length:Int) - 1 ∧ -1≤s.2.1∧s.1≤(l.length:Int)∧s.2.2.length=l.length∧∀ (t:Nat),(((t:Int) < s.1∨s.2.1 < t)→s.2.2[t]?=l.reverse[t]?)∧(s.1≤t∧(t:Int)≤s.2.1→s.2.2[t]?=l[t]?)) (fun s=>(s.2.1+1).toNat) ?_ ?_
  · rw [zY (by omega) (by omega)]
    refine ⟨by simp,by simp only;omega,by simp only;omega,by simp only;omega,rfl,fun t=>⟨fun h => ?_,fun _=>rfl⟩⟩
    simp only at h
    show l[t]?=l.reverse[t]?
    rw [List.getElem?_eq_none (by omega),List.getElem?_eq_none (by rw [List.length_reverse];omega)]
  rintro ⟨i,j,cur⟩ ⟨h1,h2,h3,h4,h5,h6⟩
  simp only at h1 h2 h3 h4 h5 h6 ⊢
  refine Ret.ite (fun h => ?_) (fun h => ?_)
  · have hij:=of_decide_eq_true h
    obtain ⟨a,rfl⟩:∃ a:Nat,i=(a:Int):=⟨i.toNat,by omega⟩
    obtain ⟨b,rfl⟩:∃ b:Nat,j=(b:Int):=⟨j.toNat,by omega⟩
    have ha:a < l.length:=by omega
    have hb:b < l.length:=by omega
    refine Ret.bindE (zU hb) ?_
    have eb:cur[b]?=some l[b]:=by rw [(h6 b).2 ⟨by omega,by omega⟩,List.getElem?_eq_getElem hb]
    have ea:cur[a]?=some l[a]:=by rw [(h6 a).2 ⟨by omega,by omega⟩,List.getElem?_eq_getElem ha]
    refine Ret.bindE eb ?_
    refine Ret.bindE (zU ha) ?_
    refine Ret.bindE ea ?_
    refine Ret.bindE (v:=l[b]) (by rw [List.getElem?_set_ne (by omega)];exact eb) ?_
    rw [zY (by omega) (by omega),zY (by omega) (by omega)]
    refine Ret.some ⟨⟨by simp only;omega,by simp only;omega,by simp only;omega,by simp only;omega,by simp [h5],fun t => ?_⟩,by simp only;omega⟩
    simp only
    have hr:∀ x:Nat,x < l.length→l.reverse[x]?=l[l.length - 1 - x]?:=fun x hx=>by
      rw [List.getElem?_reverse hx]
    by_cases e1:t=b
    · subst e1
      refine ⟨fun _ => ?_,fun h=>by omega⟩
      rw [List.getElem?_set_self (by simp [h5];omega),hr _ hb,show l.length - 1 - t=a by omega,List.getElem?_eq_getElem ha]
    · by_cases e2:t=a
      · subst e2
        refine ⟨fun _ => ?_,fun h=>by omega⟩
        rw [List.getElem?_set_ne (by omega),List.getElem?_set_self (by omega),hr _ ha,show l.length - 1 - t=b by omega,List.getElem?_eq_getElem hb]
      · rw [List.getElem?_set_ne (by omega),List.getElem?_set_ne (by omega)]
        exact ⟨fun h=>(h6 t).1 (by omega),fun h=>(h6 t).2 (by omega)⟩
  · have hij:=of_decide_eq_false h
    refine Ret.some (List.ext_getElem? fun t => ?_)
    by_cases e:(t:Int) < i∨j < (t:Int)
    · exact (h6 t).1 e
    · rw [(h6 t).2 (by omega)]
      have ht:t < l.length:=by omega
      rw [List.getElem?_reverse ht,show l.length - 1 - t=t by omega]
def Qt (c:Zab) (L:List Zac) (n:Nat) (b:Int) (m:Nat):Prop:=∃ s,L[n]?=some s∧s.day < c.Zat ∧ -1≤b∧b < (c.Zai.length:Int)∧L[m]?=some (qp c s b)
def VL (c:Zab) (L:List Zac) (n:Nat) (b:Int) (m:Nat):Prop:=Qt c L n b m∧∀ (n':Nat) (b':Int),n' < n→¬ Qt c L n' b' m
theorem ZJ {L:List Zac} (h:L.Nodup) {i j:Nat} {q:Zac} (hi:L[i]?=some q) (hj:L[j]?=some q):i=j:=
  (List.getElem?_inj (List.getElem?_eq_some_iff.1 hi).1 h).1 (hi.trans hj.symm)
def zgX (c:Zab) (L:List Zac) (n:Nat) (P:List (ByteArray×Int)):Prop:=∀ q:Zac,VS c q→(∀ j:Nat,j < n→L[j]?=some q→zq (txs q) P=some (j:Int))∧((∀ j:Nat,j < n→L[j]?≠some q)→zq (txs q) P=none)
structure CInv (c:Zab) (L:List Zac) (i:Nat) (a:Int) (K:List (Int×Zax)):Prop where
  el:∀ (m:Nat) (e:Zax),zq (m:Int) K=some e→0 < m∧∃ n:Nat,e.from_=(n:Int)∧VL c L n e.step m
  has:∀ (n:Nat) (b:Int) (m:Nat),0 < m→Qt c L n b m→(n < i∨(n=i∧b < a))→∃ e,zq (m:Int) K=some e
def W6 (c:Zab) (L:List Zac) (K:List (Int×Zax)):Prop:=∀ m:Nat,0 < m→m < L.length→∃ (e:Zax) (n:Nat),zq (m:Int) K=some e∧e.from_=(n:Int)∧n < m∧VL c L n e.step m
section
variable {c:Zab} {s0:Zac} {L:List Zac}
theorem zaN (h:ReachOk c s0 L) {n:Nat} {s:Zac} (hn:L[n]?=some s) (hd:s.day < c.Zat) {b:Int} (h1 : -1≤b) (h2:b < (c.Zai.length:Int)):∃ m,Qt c L n b m:=by
  have:=h.done s (List.mem_of_getElem? hn) hd b h1 h2
  obtain ⟨m,hm,e⟩:=List.getElem_of_mem this
  exact ⟨m,s,hn,hd,h1,h2,by rw [List.getElem?_eq_getElem hm,e]⟩
theorem zeP (hc:c.Ok) (h:ReachOk c s0 L):Ret (yP c L) (fun r=>∃ K,r=some K∧W6 c L K):=by
  have hlen:=h.inv.len
  have sa:=(qi (hc.off.lt (by omega:0 < 8)) (h.inv.vs _ h.first).cv).Zai
  unfold yP
  refine Ret.bind (P:=fun o:(List (ByteArray×Int)) ⊕ Unit=>∃ P,o=.inl P∧zgX c L L.length P) (Ret.forL (fun i P=>zgX c L i P) (by omega) (fun q _=>⟨fun j hj=>by omega,fun _=>rfl⟩) (fun i P hi hP => ?_) (fun P hP=>⟨P,rfl,hP⟩)) ?_
  · refine Ret.bindE (zl (List.getElem?_eq_getElem hi)) ?_
    have hv:=h.inv.vs _ (List.getElem_mem hi)
    refine Ret.bindE (zbS hc hv) ?_
    refine Ret.some fun q hq => ?_
    by_cases e:q=L[i]
    · subst e
      rw [ju]
      refine ⟨fun j hj hjq => ?_,fun hn=>absurd (List.getElem?_eq_getElem hi) (hn i (by omega))⟩
      rw [ZJ h.inv.nd hjq (List.getElem?_eq_getElem hi)]
    · rw [jS _ (fun e2=>e (zhS hq hv e2))]
      refine ⟨fun j hj hjq=>(hP q hq).1 j ?_ hjq,fun hn=>(hP q hq).2 fun j hj=>hn j (by omega)⟩
      by_cases e3:j=i
      · subst e3
        rw [List.getElem?_eq_getElem hi] at hjq
        exact absurd (Option.some.inj hjq).symm e
      · omega
  rintro o ⟨P,rfl,hP⟩
  simp only [Sum.elim_inl]
  refine Ret.bind (P:=fun o:(List (Int×Zax)) ⊕ Unit=>∃ K,o=.inl K∧CInv c L L.length (-1) K) (Ret.forL (fun i K=>CInv c L i (-1) K) (by omega) ⟨fun m e he=>by simp [zq] at he,fun n b m _ hE hp => ?_⟩ (fun i K hi hK => ?_) (fun K hK=>⟨K,rfl,hK⟩)) ?_
  · obtain ⟨_,_,_,h1,_⟩:=hE
    omega
  · have hie:=List.getElem?_eq_getElem hi
    have hv:=h.inv.vs _ (List.getElem_mem hi)
    refine Ret.bind (P:=fun K=>CInv c L (i+1) (-1) K) ?_ (fun K hK=>Ret.some hK)
    refine Ret.bindE (zl hie) ?_
    refine Ret.ite (fun hd => ?_) (fun hd => ?_)
    · have hd:=beq_iff_eq.1 hd
      refine Ret.some ⟨hK.el,fun n b m h0 hE hp=>hK.has n b m h0 hE ?_⟩
      obtain ⟨s,q1,q2,q3,q4,_⟩:=hE
      by_cases e:n=i
      · subst e
        rw [hie] at q1;cases q1;omega
      · omega
    · have hd:=beq_eq_false_iff_ne.1 hd
      have hday:=hv.day
      have hd2:L[i].day < c.Zat:=by omega
      refine Ret.bind (P:=fun K=>CInv c L (i+1) (-1) K) ?_ (fun K hK=>Ret.some hK)
      refine Ret.iter (fun s:Int×List (Int×Zax)=>(-1≤s.1∧s.1≤(c.Zai.length:Int))∧CInv c L i s.1 s.2) (fun s=>((c.Zai.length:Int)+1 - s.1).toNat) ⟨⟨by simp,by show (-1:Int)≤_;omega⟩,hK⟩ ?_
      rintro ⟨a,K2⟩ ⟨ha,hK2⟩
      simp only at ha hK2 ⊢
      refine Ret.ite (fun hlt => ?_) (fun hge => ?_)
      · have hlt:=of_decide_eq_true hlt
        obtain ⟨est,hvs,_⟩:=wC hc hv ha.1 hlt hd2
        obtain ⟨m,hE⟩:=zaN h hie hd2 ha.1 hlt
        have hE0:=hE
        obtain ⟨s,q1,_,_,_,q5⟩:=hE
        rw [hie] at q1;cases q1
        have hml:=(List.getElem?_eq_some_iff.1 q5).1
        have hto:=(hP _ hvs).1 m hml q5
        have hgo:CInv c L i a K2→(∃ e,zq (m:Int) K2=some e∨m=0)→CInv c L i (a+1) K2:=fun _ hx=>⟨hK2.el,fun n b m' h0 hE' hp=>by
          by_cases e:n=i∧b=a
          · obtain ⟨rfl,rfl⟩:=e
            obtain ⟨s',g1,_,_,_,g5⟩:=hE'
            rw [hie] at g1;cases g1
            have:=ZJ h.inv.nd g5 q5
            subst this
            obtain ⟨e,hx | hx⟩:=hx
            · exact ⟨e,hx⟩
            · omega
          · exact hK2.has n b m' h0 hE' (by omega)⟩
        refine Ret.bind (P:=fun K=>CInv c L i (a+1) K) ?_ (fun K hK => ?_)
        · refine Ret.bindE est ?_
          refine Ret.bindE (zbS hc hvs) ?_
          rw [hto]
          simp only [Option.getD_some]
          refine Ret.bind (P:=fun b:Bool=>b=(!(zq (m:Int) K2).isSome && !decide (m=0))) ?_ ?_
          · refine Ret.ite (fun hk=>Ret.some (by rw [hk];rfl)) (fun hk=>Ret.some ?_)
            rw [hk]
            simp only [Bool.not_false,Bool.true_and]
            congr 1
            by_cases e:m=0
            · subst e;rfl
            · rw [decide_eq_false e];exact beq_eq_false_iff_ne.2 (by omega)
          · rintro b rfl
            refine Ret.ite (fun hb => ?_) (fun hb => ?_)
            · simp only [Bool.and_eq_true,Bool.not_eq_true',decide_eq_false_iff_not,Option.isSome_eq_false_iff,Option.isNone_iff_eq_none] at hb
              refine Ret.some ⟨fun m' e he => ?_,fun n b m' h0 hE' hp => ?_⟩
              · by_cases e2:m'=m
                · subst e2
                  rw [ju] at he
                  cases he
                  refine ⟨by omega,i,rfl,hE0,fun n' b' hn' hE' => ?_⟩
                  obtain ⟨e,he⟩:=hK2.has n' b' m' (by omega) hE' (.inl hn')
                  rw [hb.1] at he;cases he
                · rw [jS _ (by omega)] at he
                  exact hK2.el m' e he
              · by_cases e2:m'=m
                · subst e2;exact ⟨_,ju _ _ _⟩
                · rw [jS _ (by omega)]
                  by_cases e:n=i∧b=a
                  · obtain ⟨rfl,rfl⟩:=e
                    obtain ⟨s',g1,_,_,_,g5⟩:=hE'
                    rw [hie] at g1;cases g1
                    exact absurd (ZJ h.inv.nd g5 q5) e2
                  · exact hK2.has n b m' h0 hE' (by omega)
            · refine Ret.some (hgo hK2 ?_)
              cases hg:zq (m:Int) K2 with
              | some e=>exact ⟨e,.inl rfl⟩
              | none=>
                rw [hg] at hb
                simp only [Option.isSome_none,Bool.not_false,Bool.true_and,Bool.not_eq_false',decide_eq_true_eq] at hb
                exact ⟨{from_:=0,step:=0},.inr hb⟩
        · rw [zY (by omega) (by omega)]
          refine Ret.some ⟨⟨⟨by show -1≤a+1;omega,by show a+1≤(c.Zai.length:Int);omega⟩,hK⟩,?_⟩
          show ((c.Zai.length:Int)+1 - (a+1)).toNat < ((c.Zai.length:Int)+1 - a).toNat
          omega
      · have hge:=of_decide_eq_false hge
        refine Ret.some ⟨hK2.el,fun n b m h0 hE hp=>hK2.has n b m h0 hE ?_⟩
        obtain ⟨s,_,_,q3,q4,_⟩:=hE
        by_cases e:n=i
        · exact .inr ⟨e,by omega⟩
        · exact .inl (by omega)
  rintro o ⟨K,rfl,hK⟩
  simp only [Sum.elim_inl]
  refine Ret.some ⟨K,rfl,fun m h0 hm => ?_⟩
  obtain ⟨n0,s,b,g1,g2,g3,g4,g5,g6,_⟩:=h.bfs m _ h0 (List.getElem?_eq_getElem hm)
  have hE:Qt c L n0 b m:=⟨s,g2,g3,g4,g5,by rw [g6];exact List.getElem?_eq_getElem hm⟩
  obtain ⟨e,he⟩:=hK.has n0 b m h0 hE (.inl (by omega))
  obtain ⟨_,n,q1,q2⟩:=hK.el m e he
  refine ⟨e,n,he,q1,?_,q2⟩
  rcases Nat.lt_or_ge n0 n with hlt | hge
  · exact absurd hE (q2.2 n0 b hlt)
  · omega
inductive Dp (c:Zab) (L:List Zac):Nat→Nat→Prop where
  | zero:Dp c L 0 0
  | next {m n d:Nat} {b:Int} (h0:0 < m) (h:VL c L n b m) (hn:n < m) (t:Dp c L n d):Dp c L m (d+1)
theorem zaO (c:Zab) (s:Zac) (x:Int) (l:List Int):stF c s (x::l)=stF c (qp c s x) l:=rfl
theorem TrOk.cons {s:Zac} {x:Int} {l:List Int} (hd:s.day < c.Zat) (h1 : -1≤x) (h2:x < c.Zai.length) (h:TrOk c Any (qp c s x) l):TrOk c Any s (x::l):=by
  refine ⟨trivial,fun k hk => ?_⟩
  cases k with
  | zero=>exact ⟨hd,h1,h2,trivial⟩
  | succ k=>
    have:=h.step k (by simpa using hk)
    simp only [List.take_succ_cons,zaO,List.getElem_cons_succ]
    exact ⟨this.1,this.2.1,this.2.2.1,trivial⟩
theorem zhT (hc:c.Ok) (h:ReachOk c s0 L) {K:List (Int×Zax)} (hK:W6 c L K) {k:Nat} {q:Zac} (hk:L[k]?=some q) :
    Ret (Qj (some K) (k:Int)) (fun tr=>TrOk c Any s0 tr∧stF c s0 tr=q∧Dp c L k tr.length):=by
  have hlen:=h.inv.len
  have hkl:=(List.getElem?_eq_some_iff.1 hk).1
  unfold Qj
  refine Ret.bind (P:=fun l=>l.length≤1500∧TrOk c Any s0 l.reverse∧stF c s0 l.reverse=q∧Dp c L k l.length) (Ret.iter (fun s:List Int×Int=>∃ (m:Nat) (t:Zac),s.2=(m:Int)∧L[m]?=some t∧TrOk c Any t s.1.reverse∧stF c t s.1.reverse=q∧s.1.length+m≤k∧∀ d,Dp c L m d→Dp c L k (d+s.1.length)) (fun s=>s.2.toNat) ⟨k,q,rfl,hk,.nil trivial,rfl,by simp,fun d hd=>by simpa using hd⟩ ?_) ?_
  · rintro ⟨l,x⟩ ⟨m,t,hx,hm,htr,hst,hle,hdp⟩
    simp only at hx htr hst hle hdp ⊢
    subst hx
    have hml:=(List.getElem?_eq_some_iff.1 hm).1
    unfold Qi
    simp only
    refine Ret.ite (fun h0 => ?_) (fun h0 => ?_)
    · have hm0:0 < m:=by
        rcases Nat.eq_zero_or_pos m with e | e
        · subst e;simp at h0
        · exact e
      obtain ⟨e,n,e1,e2,e3,e4⟩:=hK m hm0 hml
      have hw:jH (some K) (m:Int)=e:=by unfold jH;rw [Option.getD_some,e1];rfl
      rw [hw]
      refine Ret.bindE (v:=l++[e.step]) (by unfold zfp;rw [if_pos];simp;omega) ?_
      have e40:=e4
      obtain ⟨⟨s',g1,g2,g3,g4,g5⟩,_⟩:=e4
      rw [hm] at g5;cases g5
      refine Ret.some ⟨⟨n,s',e2,g1,?_,?_,by simp only [List.length_append,List.length_cons,List.length_nil];omega,fun d hd => ?_⟩,?_⟩
      · simp only [List.reverse_append,List.reverse_cons,List.reverse_nil,List.nil_append,List.singleton_append]
        exact htr.cons g2 g3 g4
      · simp only [List.reverse_append,List.reverse_cons,List.reverse_nil,List.nil_append,List.singleton_append,zaO]
        exact hst
      · have:=hdp (d+1) (.next hm0 e40 e3 hd)
        simpa [Nat.add_assoc,Nat.add_comm 1] using this
      · simp only [e2,Int.toNat_natCast];omega
    · have hm0:m=0:=by
        rcases Nat.eq_zero_or_pos m with e | e
        · exact e
        · have:((m:Int) == 0)=false:=beq_eq_false_iff_ne.2 (by omega)
          rw [this] at h0;cases h0
      subst hm0
      have:=h.at0
      rw [hm] at this;cases this
      exact Ret.some ⟨by omega,htr,hst,by simpa using hdp 0 .zero⟩
  · rintro l ⟨h1,h2,h3,h4⟩
    refine Ret.bindE (zk3 l (by omega)) ?_
    refine Ret.bindE (x3 (by simp)) ?_
    exact Ret.some ⟨h2,h3,by simpa using h4⟩
theorem zeQ (h:ReachOk c s0 L) {m m' n n':Nat} {b b':Int} (h0:0 < m) (hm:m≤m') (h1:VL c L n b m) (h2:VL c L n' b' m'):n≤n':=by
  obtain ⟨q,hq⟩:∃ q,L[m]?=some q:=by obtain ⟨s,_,_,_,_,g⟩:=h1.1;exact ⟨_,g⟩
  obtain ⟨n0,s,a,g1,g2,g3,g4,g5,g6,g7⟩:=h.bfs m q h0 hq
  have hn:n≤n0:=by
    rcases Nat.lt_or_ge n0 n with hlt | hge
    · exact absurd ⟨s,g2,g3,g4,g5,by rw [g6];exact hq⟩ (h1.2 n0 a hlt)
    · exact hge
  rcases Nat.lt_or_ge n' n with hlt | hge
  · obtain ⟨s',k1,k2,k3,k4,k5⟩:=h2.1
    obtain ⟨m'',q1,q2⟩:=g7 n' s' b' (by omega) k1 k2 k3 k4
    have:=ZJ h.inv.nd q2 k5
    omega
  · exact hge
theorem Dp.mono (h:ReachOk c s0 L):∀ {m d:Nat},Dp c L m d→∀ {m' d':Nat},m≤m'→Dp c L m' d'→d≤d':=by
  intro m d h1
  induction h1 with
  | zero=>intros;omega
  | @next m n d b h0 hcm hn t ih=>
    intro m' d' hm h2
    cases h2 with
    | zero=>omega
    | @next _ n' d2 b' h0' hcm' hn' t'=>
      have:=ih (zeQ h h0 hm hcm hcm') t'
      omega
theorem zbT (h:ReachOk c s0 L) {m:Nat}:∀ {n:Nat} {b:Int},Qt c L n b m→∃ n' b',n'≤n∧VL c L n' b' m:=by
  intro n
  induction n using Nat.strongRecOn with
  | _ n ih=>
    intro b hE
    by_cases e:∃ n' b',n' < n∧Qt c L n' b' m
    · obtain ⟨n',b',hlt,hE'⟩:=e
      obtain ⟨n2,b2,h1,h2⟩:=ih n' hlt hE'
      exact ⟨n2,b2,by omega,h2⟩
    · exact ⟨n,b,Nat.le_refl _,hE,fun n' b' hlt hE'=>e ⟨n',b',hlt,hE'⟩⟩
theorem VM (h:ReachOk c s0 L) {tr:List Int} (ht:TrOk c Any s0 tr):∀ j,j≤tr.length→∃ m d,L[m]?=some (stF c s0 (tr.take j))∧Dp c L m d∧d≤j
  | 0,_=>⟨0,0,by rw [List.take_zero];exact h.at0,.zero,Nat.le_refl _⟩
  | j+1,hj=>by
    obtain ⟨m,d,h1,h2,h3⟩:=VM h ht j (by omega)
    obtain ⟨g1,g2,g3,_⟩:=ht.step j (by omega)
    obtain ⟨m2,hE⟩:=zaN h h1 g1 g2 g3
    have hE0:=hE
    obtain ⟨s,q1,_,_,_,q5⟩:=hE
    rw [h1] at q1;cases q1
    have est:stF c s0 (tr.take (j+1))=qp c (stF c s0 (tr.take j)) tr[j]:=by
      rw [List.take_succ_eq_append_getElem (by omega),kC]
    rcases Nat.eq_zero_or_pos m2 with e | e
    · subst e
      exact ⟨0,0,by rw [est];exact q5,.zero,by omega⟩
    · obtain ⟨n,b,hn,hcm⟩:=zbT h hE0
      have hnm:n < m2:=by
        obtain ⟨n0,s,a,k1,k2,k3,k4,k5,k6,_⟩:=h.bfs m2 _ e q5
        rcases Nat.lt_or_ge n0 n with hlt | hge
        · exact absurd ⟨s,k2,k3,k4,k5,by rw [k6];exact q5⟩ (hcm.2 n0 a hlt)
        · omega
      obtain ⟨dn,hdn⟩:∃ dn,Dp c L n dn:=by
        have:∀ x:Nat,x < L.length→∃ dx,Dp c L x dx:=fun x=>by
          induction x using Nat.strongRecOn with
          | _ x ih=>
            intro hx
            rcases Nat.eq_zero_or_pos x with ex | ex
            · subst ex;exact ⟨0,.zero⟩
            · obtain ⟨n0,s,a,k1,k2,k3,k4,k5,k6,_⟩:=h.bfs x _ ex (List.getElem?_eq_getElem hx)
              obtain ⟨n1,b1,hn1,hc1⟩:=zbT h (m:=x) (n:=n0) (b:=a) ⟨s,k2,k3,k4,k5,by rw [k6];exact List.getElem?_eq_getElem hx⟩
              obtain ⟨dx,hdx⟩:=ih n1 (by omega) (by omega)
              exact ⟨dx+1,.next ex hc1 (by omega) hdx⟩
        have hm2:=(List.getElem?_eq_some_iff.1 q5).1
        exact this n (by omega)
      have:=Dp.mono h hdn hn h2
      exact ⟨m2,dn+1,by rw [est];exact q5,.next e hcm hnm hdn,by omega⟩
theorem zeR (h:ReachOk c s0 L) {tr:List Int} (ht:TrOk c Any s0 tr) {k m d:Nat} (hm:L[m]?=some (stF c s0 tr)) (hk:k≤m) (hd:Dp c L k d):d≤tr.length:=by
  obtain ⟨m',d',h1,h2,h3⟩:=VM h ht tr.length (Nat.le_refl _)
  rw [List.take_length] at h1
  have:=ZJ h.inv.nd h1 hm
  subst this
  have:=Dp.mono h hd hk h2
  omega
end
end
section
def npA {α:Type} (l:List α) (p:α→Bool) (j:Nat):Bool:=match l[j]? with | some x=>!p x | none=>true
theorem kD {α:Type} {l:List α} {p:α→Bool} {j:Nat} (hj:j < l.length):npA l p j=!p l[j]:=by unfold npA;rw [List.getElem?_eq_getElem hj]
theorem yx {α:Type} (l:List α) (p:α→Bool):decide ((0:Int)≤(match (List.range l.length).find? (fun j=>!(npA l p j)) with | none=>(-1:Int) | some j=>(j:Int)))=l.any p:=by
  cases hf:(List.range l.length).find? (fun j=>!(npA l p j)) with
  | none=>
    have h:=wv hf
    rw [decide_eq_false (by simp)]
    symm
    rw [Bool.eq_false_iff]
    intro ha
    obtain ⟨x,hx,hp⟩:=List.any_eq_true.1 ha
    obtain ⟨j,hj,rfl⟩:=List.getElem_of_mem hx
    have:=h j hj
    rw [kD hj] at this
    simp [hp] at this
  | some i=>
    obtain ⟨hi,g1,_⟩:=ww hf
    rw [kD hi] at g1
    simp only [Bool.not_eq_false'] at g1
    rw [decide_eq_true (by simp)]
    symm
    exact List.any_eq_true.2 ⟨_,List.getElem_mem hi,g1⟩
def Zm (i:Nat) (s:Zac):Int:=match s.Zal[i]? with | some m=>m.Zan | none=>0
def wb (L:List Zac) (i:Nat):Bool := !L.any fun s=>!(Zm i s == 0)
def zgY (L:List Zac) (i:Nat):Bool:=L.any fun s=>Zm i s == 3
def unB (c:Zab) (L:List Zac) (i:Nat):Bool:=match c.Zae[i]? with
  | some k=>k.kind == 3&&(!k.ZaA && !zgY L i)
  | none=>false
section
variable {c:Zab} {s0:Zac} {L:List Zac}
theorem yU {s:Zac} (hv:VS c s) {i:Nat} (hi:i < c.Zae.length):∃ m,s.Zal[i]?=some m∧ze s.Zal (i:Int)=some m∧Zm i s=m.Zan:=by
  have:i < s.Zal.length:=by rw [hv.lm];exact hi
  refine ⟨_,List.getElem?_eq_getElem this,zl (List.getElem?_eq_getElem this),?_⟩
  unfold Zm;rw [List.getElem?_eq_getElem this]
theorem zgm (h:ReachOk c s0 L) {i:Nat} (hi:i < c.Zae.length):yr L (i:Int)=some (wb L i):=by
  have hlen:=h.inv.len
  unfold yr WK WJ
  rw [qM (npA L (fun s=>!(Zm i s == 0))) (fun j=>(j:Int)) (by omega) (fun j hj=>by
    obtain ⟨m,_,h2,h3⟩:=yU (h.inv.vs _ (List.getElem_mem hj)) hi
    rw [zl (List.getElem?_eq_getElem hj)]
    simp only [ZaI,WI,h2,kD hj,h3]
    cases (m.Zan == 0)<;>rfl)]
  have hf:=yx L (fun s=>!(Zm i s == 0))
  simp only [ZaI]
  cases hq:(List.range L.length).find? (fun j=>!(npA L (fun s=>!(Zm i s == 0)) j)) with
  | none=>rw [hq] at hf;simp only [Sum.elim_inl,ZaI,hf];rfl
  | some j=>rw [hq] at hf;simp only [Sum.elim_inr,ZaI,hf];rfl
theorem zgn (h:ReachOk c s0 L) {i:Nat} (hi:i < c.Zae.length):Je L (i:Int)=some (zgY L i):=by
  have hlen:=h.inv.len
  unfold Je WM
  rw [qM (npA L (fun s=>Zm i s == 3)) (fun j=>(j:Int)) (by omega) (fun j hj=>by
    obtain ⟨m,_,h2,h3⟩:=yU (h.inv.vs _ (List.getElem_mem hj)) hi
    rw [zl (List.getElem?_eq_getElem hj)]
    simp only [ZaI,WL,h2,kD hj,h3]
    cases (m.Zan == 3)<;>rfl)]
  have hf:=yx L (fun s=>Zm i s == 3)
  simp only [ZaI]
  cases hq:(List.range L.length).find? (fun j=>!(npA L (fun s=>Zm i s == 3) j)) with
  | none=>rw [hq] at hf;simp only [Sum.elim_inl,ZaI,hf];rfl
  | some j=>rw [hq] at hf;simp only [Sum.elim_inr,ZaI,hf];rfl
theorem zjE (h:ReachOk c s0 L) {i:Nat} (hi:i < c.Zae.length):vt c L (i:Int)=some (unB c L i):=by
  unfold vt
  rw [zl (List.getElem?_eq_getElem hi)]
  simp only [ZaI,zgn h hi,unB,List.getElem?_eq_getElem hi]
  cases (c.Zae[i].kind == 3)<;>cases c.Zae[i].ZaA<;>rfl
end
def zgo (c:Zab):Bool:=c.Zai.any fun a=>a.kind == 3
def zgp (d b:Zam):Bool:=d.kind == 1&&(b.kind == 2&&(d.final&&(b.final&&(!d.ZaA&&(!b.ZaA&&(d.act == b.act&&(d.pause == -1&&(b.pause == -1&&d.ZaD == b.ZaD))))))))
def kE (c:Zab) (i j:Nat):Bool:=match c.Zae[i]?,c.Zae[j]? with
  | some d,some b=>zgp d b && !zgo c
  | _,_=>false
def clK (k:Zam) (d b:zw):Bool:=(d.Zan == 1||d.Zan == 2)&&(b.Zan == 1&&(b.Zau == d.Zau&&decide ((bif d.Zan == 1 then d.left+k.Zay else d.left)≤b.left)))
def yC (c:Zab) (s:Zac) (i j:Nat):Bool:=match c.Zae[i]?,s.Zal[i]?,s.Zal[j]? with
  | some k,some d,some b=>clK k d b
  | _,_,_=>false
section
variable {c:Zab} {s0:Zac} {L:List Zac}
theorem zhU (ha:c.Zai.length < 4611686018427387904):WO c.Zai=some (zgo c):=by
  unfold WO Kg
  rw [qM (npA c.Zai (fun a=>a.kind == 3)) (fun j=>(j:Int)) (by omega) (fun j hj=>by
    rw [zl (List.getElem?_eq_getElem hj)]
    simp only [ZaI,WN,kD hj]
    cases (c.Zai[j].kind == 3)<;>rfl)]
  have hf:=yx c.Zai (fun a=>a.kind == 3)
  simp only [ZaI]
  cases hq:(List.range c.Zai.length).find? (fun j=>!(npA c.Zai (fun a=>a.kind == 3) j)) with
  | none=>rw [hq] at hf;simp only [Sum.elim_inl,ZaI,hf];rfl
  | some j=>rw [hq] at hf;simp only [Sum.elim_inr,ZaI,hf];rfl
theorem zhV (ha:c.Zai.length < 4611686018427387904) {i j:Nat} (hi:i < c.Zae.length) (hj:j < c.Zae.length):xE c (i:Int) (j:Int)=some (kE c i j):=by
  unfold xE
  rw [zl (List.getElem?_eq_getElem hi),zl (List.getElem?_eq_getElem hj)]
  simp only [ZaI,zhU ha,kE,zgp,List.getElem?_eq_getElem hi,List.getElem?_eq_getElem hj]
  cases (c.Zae[i].kind == 1)
  · rfl
  cases (c.Zae[j].kind == 2)
  · rfl
  cases c.Zae[i].final
  · rfl
  cases c.Zae[j].final
  · rfl
  cases c.Zae[i].ZaA
  rotate_left
  · rfl
  cases c.Zae[j].ZaA
  rotate_left
  · rfl
  cases (c.Zae[i].act == c.Zae[j].act)
  · rfl
  cases (c.Zae[i].pause == -1)
  · rfl
  cases (c.Zae[j].pause == -1)
  · rfl
  cases (c.Zae[i].ZaD == c.Zae[j].ZaD)<;>rfl
theorem zbU (hc:c.Ok) {s:Zac} (hv:VS c s) {i:Nat} {k:Zam} {m:zw} (hk:c.Zae[i]?=some k) (hm:s.Zal[i]?=some m):IntKind.i64.wrap (m.left+k.Zay)=m.left+k.Zay:=by
  have ho:=hc.off.lt (by omega:0 < 8)
  have kv:=vX ho hv.cv hk
  have sm:=qi ho hv.cv
  have:=zeE kv (by have:=sm.Zao;omega) (hv.mrk i k m hk hm)
  have h2:=kv.Zay
  exact zY (by omega) (by omega)
theorem zjF (hc:c.Ok) {s:Zac} (hv:VS c s) {i j:Nat} (hi:i < c.Zae.length) (hj:j < c.Zae.length):vv c s (i:Int) (j:Int)=some (yC c s i j):=by
  obtain ⟨d,d1,d2,_⟩:=yU hv hi
  obtain ⟨b,b1,b2,_⟩:=yU hv hj
  have hk:=List.getElem?_eq_getElem hi
  have hw:=zbU hc hv hk d1
  unfold vv
  simp only [d2,b2,zl hk,ZaI,hw,yC,hk,d1,b1,clK]
  by_cases e1:d.Zan=1
  · simp only [e1,beq_self_eq_true,Bool.true_or,Bool.true_and,cond_true,ZaI,Sum.elim_inl]
    cases (b.Zan == 1)
    · rfl
    cases (b.Zau == d.Zau)<;>rfl
  · by_cases e2:d.Zan=2
    · simp only [e2]
      show _=some (true&&_)
      simp only [Bool.true_and]
      cases (b.Zan == 1)
      · rfl
      cases (b.Zau == d.Zau)<;>rfl
    · rw [beq_eq_false_iff_ne.2 e1,beq_eq_false_iff_ne.2 e2]
      rfl
end
end
section
structure ClF (c:Zab) (s0:Zac) (L:List Zac) (a b:Nat) (f:Zaj):Prop where
  kind:f.kind=4
  Zaa:f.Zaa = -1
  clause:f.clause=(a:Int)
  other:f.other=(b:Int)
  ha:a < c.Zae.length
  hb:b < c.Zae.length
  opp:kE c a b=true
  at_:∃ (k:Nat) (q:Zac),L[k]?=some q∧yC c q a b=true∧(∀ (k':Nat) (q':Zac),k' < k→L[k']?=some q'→yC c q' a b=false)∧TrOk c Any s0 f.Zaz∧stF c s0 f.Zaz=q∧Dp c L k f.Zaz.length
def Bef (a b i j:Nat):Prop:=a < i∨(a=i∧b < j)
structure ClashL (c:Zab) (s0:Zac) (L:List Zac) (i j:Nat) (C:List Zaj):Prop where
  el:∀ f∈C,∃ a b,Bef a b i j∧ClF c s0 L a b f
  has:∀ a b,Bef a b i j→a < c.Zae.length→b < c.Zae.length→kE c a b=true→(∃ q∈L,yC c q a b=true)→∃ f∈C,f.clause=(a:Int)∧f.other=(b:Int)
  ord:C.Pairwise fun f g=>f.clause < g.clause∨(f.clause=g.clause∧f.other < g.other)
  len:C.length≤i*c.Zae.length+j
def CmO (c:Zab) (L:List Zac) (o:Option (List (Int×Zax))):Prop:=o=none∨∃ K,o=some K∧W6 c L K
section
variable {c:Zab} {s0:Zac} {L:List Zac}
theorem ClashL.skip {i j:Nat} {C:List Zaj} (h:ClashL c s0 L i j C) (hn:¬ (kE c i j=true∧∃ q∈L,yC c q i j=true)):ClashL c s0 L i (j+1) C where
  el:=fun f hf=>by
    obtain ⟨a,b,h1,h2⟩:=h.el f hf
    exact ⟨a,b,by unfold Bef at *; omega,h2⟩
  has:=fun a b h1 h2 h3 h4 h5=>by
    by_cases e:a=i∧b=j
    · obtain ⟨rfl,rfl⟩:=e
      exact absurd ⟨h4,h5⟩ hn
    · exact h.has a b (by unfold Bef at *; omega) h2 h3 h4 h5
  ord:=h.ord
  len:=by have:=h.len;omega
theorem ClashL.push {i j:Nat} {C:List Zaj} {f:Zaj} (h:ClashL c s0 L i j C) (hf:ClF c s0 L i j f):ClashL c s0 L i (j+1) (C++[f]) where
  el:=fun g hg=>by
    rcases List.mem_append.1 hg with hg | hg
    · obtain ⟨a,b,h1,h2⟩:=h.el g hg
      exact ⟨a,b,by unfold Bef at *; omega,h2⟩
    · rw [List.mem_singleton.1 hg]
      exact ⟨i,j,.inr ⟨rfl,by omega⟩,hf⟩
  has:=fun a b h1 h2 h3 h4 h5=>by
    by_cases e:a=i∧b=j
    · obtain ⟨rfl,rfl⟩:=e
      exact ⟨f,by simp,hf.clause,hf.other⟩
    · obtain ⟨g,h6,h7⟩:=h.has a b (by unfold Bef at *; omega) h2 h3 h4 h5
      exact ⟨g,by simp [h6],h7⟩
  ord:=List.pairwise_append.2 ⟨h.ord,by simp,fun g hg x hx=>by
    rw [List.mem_singleton.1 hx]
    obtain ⟨a,b,h1,h2⟩:=h.el g hg
    rw [h2.clause,h2.other,hf.clause,hf.other]
    unfold Bef at h1
    omega⟩
  len:=by have:=h.len;simp;omega
theorem ClashL.row {i:Nat} {C:List Zaj} (h:ClashL c s0 L i c.Zae.length C):ClashL c s0 L (i+1) 0 C where
  el:=fun f hf=>by
    obtain ⟨a,b,h1,h2⟩:=h.el f hf
    exact ⟨a,b,by unfold Bef at *; omega,h2⟩
  has:=fun a b h1 h2 h3 h4 h5=>h.has a b (by unfold Bef at *; omega) h2 h3 h4 h5
  ord:=h.ord
  len:=by have:=h.len;rw [Nat.succ_mul];omega
theorem zbo (hc:c.Ok) (h:ReachOk c s0 L) (hv0:VS c s0):Ret (wz c L) (ClashL c s0 L c.Zae.length 0):=by
  have ho:=hc.off.lt (by omega:0 < 8)
  have sm:=qi ho hv0.cv
  have s2:=sm.Zai
  have s3:=sm.Zae
  have hlen:=h.inv.len
  have hn:c.Zae.length≤400:=by omega
  unfold wz
  refine Ret.bind (P:=fun o:(List Zaj×Option (List (Int×Zax))) ⊕ Unit=>∃ C o',o=.inl (C,o')∧ClashL c s0 L c.Zae.length 0 C) (Ret.forL (fun i s=>ClashL c s0 L i 0 s.1∧CmO c L s.2) (by omega) ⟨⟨fun f hf=>by simp at hf,fun a b hb=>by unfold Bef at hb;omega,by simp,by simp⟩,.inl rfl⟩ (fun i s hi hs => ?_) (fun s hs=>⟨s.1,s.2,rfl,hs.1⟩)) ?_
  · obtain ⟨C,o⟩:=s
    obtain ⟨hC,hO⟩:=hs
    simp only at hC hO ⊢
    refine Ret.bind (P:=fun o:(List Zaj×Option (List (Int×Zax))) ⊕ Unit=>∃ C o',o=.inl (C,o')∧ClashL c s0 L i c.Zae.length C∧CmO c L o') (Ret.forL (fun j s=>ClashL c s0 L i j s.1∧CmO c L s.2) (by omega) ⟨hC,hO⟩ (fun j s hj hs => ?_) (fun s hs=>⟨s.1,s.2,rfl,hs⟩)) ?_
    · obtain ⟨C,o⟩:=s
      obtain ⟨hC,hO⟩:=hs
      simp only at hC hO ⊢
      have hCl:=hC.len
      have hbig:i*c.Zae.length≤400*400:=Nat.mul_le_mul (by omega) hn
      refine Ret.bind (P:=fun v:List Zaj×Option (List (Int×Zax))=>ClashL c s0 L i (j+1) v.1∧CmO c L v.2) ?_ (fun v hv=>Ret.some (show ClashL c s0 L i (j+1) v.1∧CmO c L v.2 from hv))
      refine Ret.bindE (zhV (by omega) hi hj) ?_
      refine Ret.ite (fun hopp => ?_) (fun hopp=>Ret.some ⟨hC.skip (by rw [hopp];simp),hO⟩)
      refine Ret.bind (P:=fun v:(List Zaj×Option (List (Int×Zax))) ⊕ (List Zaj×Option (List (Int×Zax)))=>(∃ C o,v=.inl (C,o)∧ClashL c s0 L i (j+1) C∧CmO c L o)∨(∃ C o,v=.inr (C,o)∧ClashL c s0 L i (j+1) C∧CmO c L o)) (Ret.forL (fun k s=>s=(C,o)∧∀ (k':Nat) (q:Zac),k' < k→L[k']?=some q→yC c q i j=false) (by omega) ⟨rfl,fun k' q hk'=>by omega⟩ (fun k s hk hs => ?_) (fun s hs => ?_)) ?_
      · obtain ⟨rfl,hno⟩:=hs
        have hkk:=List.getElem?_eq_getElem hk
        have hvk:=h.inv.vs _ (List.getElem_mem hk)
        refine Ret.bindE (zl hkk) ?_
        refine Ret.bindE (zjF hc hvk hi hj) ?_
        refine Ret.ite (fun hcl => ?_) (fun hcl=>Ret.some ⟨rfl,fun k' q hk' hq => ?_⟩)
        · refine Ret.bind (P:=fun v=>∃ K,v=some K∧W6 c L K) ?_ ?_
          · refine Ret.ite (fun hs => ?_) (fun hs => ?_)
            · rcases hO with e | ⟨K,e,hK⟩
              · rw [e] at hs;cases hs
              · exact Ret.some ⟨K,e,hK⟩
            · exact Ret.bind (zeP hc h) fun r hr=>Ret.some hr
          · rintro v ⟨K,rfl,hK⟩
            refine Ret.bind (zhT hc h hK hkk) ?_
            rintro tr ⟨t1,t2,t3⟩
            refine Ret.bindE (x:=ja 4 (-1) (i:Int) (j:Int) tr) rfl ?_
            refine Ret.bindE (jy (by simp;omega)) ?_
            refine Ret.some (.inr ⟨_,_,rfl,hC.push ⟨rfl,rfl,rfl,rfl,hi,hj,hopp,k,_,hkk,hcl,fun k' q' h1 h2=>hno k' q' h1 h2,t1,t2,t3⟩,.inr ⟨K,rfl,hK⟩⟩)
        · by_cases e:k'=k
          · subst e
            rw [hkk] at hq;cases hq
            exact hcl
          · exact hno k' q (by omega) hq
      · obtain ⟨rfl,hno⟩:=hs
        refine .inl ⟨C,o,rfl,hC.skip ?_,hO⟩
        rintro ⟨_,q,hq,hcl⟩
        obtain ⟨k,hk,e⟩:=List.getElem_of_mem hq
        rw [hno k q hk (by rw [List.getElem?_eq_getElem hk,e])] at hcl
        cases hcl
      · rintro v (⟨C',o',rfl,h1,h2⟩ | ⟨C',o',rfl,h1,h2⟩)
        · exact Ret.some ⟨h1,h2⟩
        · exact Ret.some ⟨h1,h2⟩
    · rintro v ⟨C',o',rfl,h1,h2⟩
      exact Ret.some ⟨h1.row,h2⟩
  · rintro v ⟨C',o',rfl,h1⟩
    exact Ret.some h1
end
end
section
section
variable {c:Zab} {Zaa:Int} {p:Zah} {a:ZaF}
theorem zgq (A:ArOk c Zaa p a) {r:Nat→Int} (hr:yl (gm c a) r) {i:Nat} (hi:i < a.Zaw.length) {T:List Zar} (hT:a.moves[i]?=some T) (h0:0 < r i) :
    T≠[]∧(a.Zaw[i].own=true→∀ m∈T,0≤r m.to.toNat∧r m.to.toNat≤r i - 1)∧(a.Zaw[i].own=false→∃ m∈T,0≤r m.to.toNat∧r m.to.toNat≤r i - 1):=by
  obtain ⟨k,hk⟩:∃ k:Nat,r i=((k+1:Nat):Int):=⟨(r i).toNat - 1,by omega⟩
  have hA:=((hr i hi).2 (k+1)).1 ⟨by omega,by omega⟩
  have hlo:(gm c a).lost i≠true:=fun e=>by have:=(Jr hr (i:=i) hi).2 e;omega
  have hs:=A.succ hi hT
  have hle:∀ m∈T,Attr (gm c a) k m.to.toNat→0≤r m.to.toNat∧r m.to.toNat≤r i - 1:=fun m hm ha=>by
    have ht:=A.to hi hT hm
    have hti:m.to.toNat < (gm c a).n:=by show m.to.toNat < a.Zaw.length;omega
    have h1:=((hr _ hti).2 k).2 ha
    have h2:=(hr _ hti).1
    omega
  rcases hA with h | ⟨h1,h2⟩ | ⟨h1,t,h2,h3⟩
  · exact absurd h hlo
  · rw [A.own hi] at h1
    refine ⟨A.ne hi hT h1,fun _ m hm=>hle m hm (h2 _ (by rw [hs];exact List.mem_map.2 ⟨m,hm,rfl⟩)),fun e=>by rw [h1] at e;cases e⟩
  · rw [A.own hi] at h1
    rw [hs] at h2
    obtain ⟨m,hm,rfl⟩:=List.mem_map.1 h2
    exact ⟨fun e=>(by rw [e] at hm;cases hm),fun e=>(by rw [h1] at e;cases e),fun _=>⟨m,hm,hle m hm h3⟩⟩
end
end
section
structure PlayT (c:Zab) (Zaa:Int) (s0:Zac) (l:List Int):Prop where
  tr:TrOk c Any s0 l
  oth:∀ (k:Nat) (hk:k < l.length),(l[k] = -1∨J0 c (stF c s0 (l.take k)) l[k]≠Zaa)∧jM c (stF c s0 (l.take k)) Zaa=false
  lost:jM c (stF c s0 l) Zaa=true
  len:l.length≤1500
section
variable {c:Zab} {Zaa:Int} {s0:Zac} {a:ZaF}
theorem zeS (A:ArOk c Zaa (atO s0) a) {r:List Int} (hl:r.length=a.Zaw.length) {k:Nat} (hk:k < a.Zaw.length) {T:List Zar} (hT:a.moves[k]?=some T) (hTl:T.length≤62)
    (hE:∃ m∈T,0≤at_ r m.to.toNat∧at_ r m.to.toNat≤at_ r k - 1):Ret (ZD T r (k:Int)) (fun n=>∃ j:Nat,n=(j:Int)∧∃ hj:j < T.length,0≤at_ r T[j].to.toNat∧at_ r T[j].to.toNat≤at_ r k - 1):=by
  unfold ZD
  have idxr:∀ k:Nat,k < a.Zaw.length→ze r (k:Int)=some (at_ r k):=fun k hk=>zl (xO (by omega))
  have hrT:∀ (j:Nat) (hj:j < T.length),ze r T[j].to=some (at_ r T[j].to.toNat):=fun j hj=>by
    have ht:=A.to hk hT (List.getElem_mem hj)
    have:=idxr T[j].to.toNat (by omega)
    rw [Int.toNat_of_nonneg ht.1] at this
    exact this
  rw [qM (fun j=>!(match T[j]? with | some m=>decide (0≤at_ r m.to.toNat)&&decide (at_ r m.to.toNat < at_ r k) | none=>false)) (fun j=>(j:Int)) (by omega) (fun j hj=>by
    rw [zl (List.getElem?_eq_getElem hj)]
    simp only [ZaI,WH,hrT j hj,idxr k hk,List.getElem?_eq_getElem hj]
    cases h1:decide (0≤at_ r T[j].to.toNat)<;>cases h2:decide (at_ r T[j].to.toNat < at_ r k)<;>rfl)]
  simp only [ZaI]
  obtain ⟨m,hm,h1,h2⟩:=hE
  obtain ⟨j,hj,rfl⟩:=List.getElem_of_mem hm
  cases hf:(List.range T.length).find? (fun j=>!!(match T[j]? with | some m=>decide (0≤at_ r m.to.toNat)&&decide (at_ r m.to.toNat < at_ r k) | none=>false)) with
  | none=>
    have:=wv hf j hj
    rw [List.getElem?_eq_getElem hj] at this
    simp only [Bool.not_eq_true',Bool.and_eq_false_iff,decide_eq_false_iff_not] at this
    omega
  | some i=>
    obtain ⟨hi,g1,_⟩:=ww hf
    rw [List.getElem?_eq_getElem hi] at g1
    simp only [Bool.not_eq_false',Bool.and_eq_true,decide_eq_true_eq] at g1
    exact Ret.some ⟨i,rfl,hi,g1.1,by omega⟩
theorem zcZ {q:Zah} {T:List Zar} (ho:q.own=true) (h:T.map (·.step)=zE c Zaa q):∃ h0:0 < T.length,T[0].step = -2:=by
  have e:zE c Zaa q = -2::(bif decide (c.Zat≤q.state.day) then [] else (bif q.own then [] else [-1])++jf c Zaa q c.Zai.length):=by
    unfold zE;rw [ho];rfl
  rw [e] at h
  cases T with
  | nil=>cases h
  | cons t T=>
    simp only [List.map_cons,List.cons.injEq] at h
    exact ⟨by simp,h.1⟩
theorem zgr (hc:c.Ok) (A:ArOk c Zaa (atO s0) a) {r:List Int} (hl:r.length=a.Zaw.length) (hr:yl (gm c a) (at_ r)) (hbd:∀ i,i < a.Zaw.length→at_ r i≤1500) (h0:0≤at_ r 0) :
    Ret (ZE a r) (PlayT c Zaa s0):=by
  have hn:a.Zaw.length≤1500:=A.F.inv.len
  have hm:=A.F.len
  have hpos:=A.pos
  have hfst:=A.F.first
  have idxr:∀ k:Nat,k < a.Zaw.length→ze r (k:Int)=some (at_ r k):=fun k hk=>zl (xO (by omega))
  unfold ZE
  refine Ret.bind (P:=PlayT c Zaa s0) ?_ (fun v hv=>Ret.some hv)
  refine Ret.bind (P:=PlayT c Zaa s0) ?_ (fun v hv=>Ret.some hv)
  refine Ret.iter (fun s:List Int×Int=>∃ (k:Nat) (hk:k < a.Zaw.length),s.2=(k:Int)∧0≤at_ r k∧a.Zaw[k].state=stF c s0 s.1∧TrOk c Any s0 s.1 ∧
    (∀ (k:Nat) (hk:k < s.1.length),(s.1[k] = -1∨J0 c (stF c s0 (s.1.take k)) s.1[k]≠Zaa)∧jM c (stF c s0 (s.1.take k)) Zaa=false)∧(s.1.length:Int)+at_ r k≤1500) (fun s=>(at_ r s.2.toNat).toNat) ?_ ?_
  · refine ⟨0,hpos,rfl,h0,?_,.nil trivial,fun k hk=>by simp at hk,by have:=hbd 0 hpos;simp;omega⟩
    rw [List.getElem?_eq_getElem hpos] at hfst
    rw [Option.some.inj hfst];rfl
  rintro ⟨l,i⟩ ⟨k,hk,hi,hrk,hst,htr,hoth,hlen⟩
  simp only at hi hst htr hoth hlen ⊢
  subst hi
  refine Ret.bindE (idxr k hk) ?_
  have hlk:=A.lost hk
  rw [hst] at hlk
  refine Ret.ite (fun h => ?_) (fun h => ?_)
  · have hp:0 < at_ r k:=of_decide_eq_true h
    have hnl:jM c (stF c s0 l) Zaa=false:=by
      rw [←hlk]
      cases e:(gm c a).lost k with
      | false=>rfl
      | true=>have:=(Jr hr (i:=k) hk).2 e;omega
    obtain ⟨T,hT,hst2,_⟩:=A.mv hk
    have hTl:=A.len hc hk hT
    obtain ⟨hne,hO,hE⟩:=zgq A hr hk hT hp
    refine Ret.bindE (zl (List.getElem?_eq_getElem hk)) ?_
    refine Ret.ite (fun ho => ?_) (fun ho => ?_)
    · refine Ret.bindE (zl hT) ?_
      obtain ⟨hT0,hs2⟩:=zcZ ho hst2
      refine Ret.bindE (v:=T[0]) (zl (i:=0) (List.getElem?_eq_getElem hT0)) ?_
      have hmem:=List.getElem_mem hT0
      obtain ⟨_,t2,t3,t4⟩:=A.tgt hk hT hmem
      obtain ⟨g1,g2⟩:=hO ho _ hmem
      refine Ret.some ⟨⟨T[0].to.toNat,t3,(Int.toNat_of_nonneg t2).symm,g1,?_,htr,hoth,by simp only;omega⟩,?_⟩
      · rw [t4,hs2,zbm];exact hst
      · simp only [Int.toNat_natCast];omega
    · refine Ret.bindE (zl hT) ?_
      refine Ret.bind (zeS A hl hk hT hTl (hE ho)) ?_
      rintro n ⟨j,rfl,hj,g1,g2⟩
      refine Ret.bindE (zl hT) ?_
      refine Ret.bindE (zl (List.getElem?_eq_getElem hj)) ?_
      have hmem:=List.getElem_mem hj
      obtain ⟨t1,t2,t3,t4⟩:=A.tgt hk hT hmem
      refine Ret.bindE (jy (by simp;omega)) ?_
      have hmv:T[j].step ≠ -2 ∧ -1≤T[j].step∧T[j].step < c.Zai.length∧a.Zaw[k].state.day < c.Zat∧(T[j].step = -1∨J0 c a.Zaw[k].state T[j].step≠Zaa):=by
        rcases wD.1 t1 with ⟨e,_⟩ | ⟨hd,_,e⟩ | ⟨hd,i,hi,hmb,e⟩
        · rw [ho] at e;cases e
        · rw [e];exact ⟨by omega,by omega,by omega,hd,.inl rfl⟩
        · rw [e]
          refine ⟨by omega,by omega,by omega,hd,.inr ?_⟩
          unfold mvB at hmb
          rw [List.getElem?_eq_getElem hi] at hmb
          simp only [ho,Bool.and_eq_true,beq_iff_eq] at hmb
          unfold J0
          rw [if_neg (by omega),Int.toNat_natCast,List.getElem?_eq_getElem hi]
          exact beq_eq_false_iff_ne.1 hmb.1
      obtain ⟨m1,m2,m3,m4,m5⟩:=hmv
      have hvs:=A.F.inv.vs _ (List.getElem_mem hk)
      rw [hst] at m4 m5
      refine Ret.some ⟨⟨T[j].to.toNat,t3,(Int.toNat_of_nonneg t2).symm,g1,?_,htr.snoc m4 m2 m3 trivial,fun q hq => ?_,by simp only [List.length_append,List.length_cons,List.length_nil];omega⟩,?_⟩
      · rw [t4,zbn c _ m2,kC]
        simp only [hst]
      · rw [List.length_append] at hq
        simp only [List.length_cons,List.length_nil] at hq
        by_cases e:q=l.length
        · subst e
          have e1:(l++[T[j].step]).take l.length=l:=by simp
          rw [e1]
          simp only [List.getElem_append_right (Nat.le_refl _),Nat.sub_self,List.getElem_cons_zero]
          exact ⟨m5,hnl⟩
        · have hq2:q < l.length:=by omega
          rw [List.take_append_of_le_length (by omega),List.getElem_append_left hq2]
          exact hoth q hq2
      · simp only [Int.toNat_natCast];omega
  · have hz:at_ r k=0:=by have:=of_decide_eq_false h;omega
    exact Ret.some ⟨htr,hoth,by rw [←hlk];exact (Jr hr (i:=k) hk).1 hz,by omega⟩
end
end
section
structure ForcedL (c:Zab) (s0:Zac) (i:Nat) (F:List Zaj):Prop where
  el:∀ f∈F,f.kind=1∧f.clause = -1∧f.other = -1∧∃ p:Nat,p < i∧f.Zaa=(p:Int)∧xP c (p:Int) (atO s0)=false∧PlayT c (p:Int) s0 f.Zaz
  has:∀ p:Nat,p < i→xP c (p:Int) (atO s0)=false→∃ f∈F,f.Zaa=(p:Int)
  ord:F.Pairwise fun f g=>f.Zaa < g.Zaa
  len:F.length≤i
def jN (i:Nat):Zaj:={kind:=2,Zaa := -1,clause:=(i:Int),other := -1,Zaz:=[]}
def wc (i:Nat):Zaj:={kind:=3,Zaa := -1,clause:=(i:Int),other := -1,Zaz:=[]}
def xQ (L:List Zac) (n:Nat):List Zaj:=((List.range n).filter (wb L)).map jN
def wd (c:Zab) (L:List Zac) (n:Nat):List Zaj:=((List.range n).filter fun i=>!wb L i&&unB c L i).map wc
def FindOk (c:Zab) (s0:Zac) (L:List Zac) (l:List Zaj):Prop:=∃ F C,l=F++xQ L c.Zae.length++wd c L c.Zae.length++C∧ForcedL c s0 c.Zao.toNat F∧ClashL c s0 L c.Zae.length 0 C
theorem Js (L:List Zac) (n:Nat):(xQ L n).length≤n:=by
  unfold xQ;rw [List.length_map]
  exact Nat.le_trans (List.length_filter_le _ _) (by simp)
theorem Jt (c:Zab) (L:List Zac) (n:Nat):(wd c L n).length≤n:=by
  unfold wd;rw [List.length_map]
  exact Nat.le_trans (List.length_filter_le _ _) (by simp)
theorem zc0 (L:List Zac) (n:Nat):xQ L (n+1)=xQ L n++(bif wb L n then [jN n] else []):=by
  unfold xQ;rw [List.range_succ,List.filter_append,List.map_append]
  cases h:wb L n<;>simp [h]
theorem zc1 (c:Zab) (L:List Zac) (n:Nat):wd c L (n+1)=wd c L n++(bif !wb L n&&unB c L n then [wc n] else []):=by
  unfold wd;rw [List.range_succ,List.filter_append,List.map_append]
  cases h:(!wb L n&&unB c L n)<;>simp [h]
section
variable {c:Zab} {s0:Zac} {L:List Zac}
theorem ForcedL.skip {i:Nat} {F:List Zaj} (h:ForcedL c s0 i F) (hn:xP c (i:Int) (atO s0)=true):ForcedL c s0 (i+1) F where
  el:=fun f hf=>by
    obtain ⟨h1,h2,h3,p,h4,h5⟩:=h.el f hf
    exact ⟨h1,h2,h3,p,by omega,h5⟩
  has:=fun p hp hs=>by
    by_cases e:p=i
    · subst e;rw [hn] at hs;cases hs
    · exact h.has p (by omega) hs
  ord:=h.ord
  len:=by have:=h.len;omega
theorem ForcedL.push {i:Nat} {F:List Zaj} (h:ForcedL c s0 i F) (hn:xP c (i:Int) (atO s0)=false) {tr:List Int} (ht:PlayT c (i:Int) s0 tr):ForcedL c s0 (i+1) (F++[{kind:=1,Zaa:=(i:Int),clause := -1,other := -1,Zaz:=tr}]) where
  el:=fun f hf=>by
    rcases List.mem_append.1 hf with hf | hf
    · obtain ⟨h1,h2,h3,p,h4,h5⟩:=h.el f hf
      exact ⟨h1,h2,h3,p,by omega,h5⟩
    · rw [List.mem_singleton.1 hf]
      exact ⟨rfl,rfl,rfl,i,by omega,rfl,hn,ht⟩
  has:=fun p hp hs=>by
    by_cases e:p=i
    · subst e;exact ⟨_,List.mem_append.2 (.inr (List.mem_singleton.2 rfl)),rfl⟩
    · obtain ⟨f,h1,h2⟩:=h.has p (by omega) hs
      exact ⟨f,by simp [h1],h2⟩
  ord:=List.pairwise_append.2 ⟨h.ord,by simp,fun f hf g hg=>by
    rw [List.mem_singleton.1 hg]
    obtain ⟨_,_,_,p,h4,h5,_⟩:=h.el f hf
    rw [h5];simp only;omega⟩
  len:=by have:=h.len;simp;omega
theorem W7 {s1:Zac} (h1:qx c=some (s0,0)) (h2:qx c=some (s1,0)):s1=s0:=by
  rw [h1] at h2;cases h2;rfl
theorem zgs (hc:c.Ok):Ret (jP c) (fun r=>(r.2≠0∧r.1=[])∨(r.2=0∧∃ s0 L,qx c=some (s0,0)∧VS c s0∧xm c=some (L,0)∧ReachOk c s0 L∧(∀ p:Nat,(p:Int) < c.Zao→∃ a,js c (p:Int)=some (a,0)∧ArOk c (p:Int) (atO s0) a)∧FindOk c s0 L r.1)):=by
  by_cases hv:(z7 c).1=0
  case neg=>
    have hs:=Zc hc hv
    have hr:xm c=some ([],1):=by unfold xm;rw [hs];rfl
    unfold jP
    refine Ret.bindE hr ?_
    exact Ret.some (.inl ⟨by simp,rfl⟩)
  obtain ⟨⟨s0,e0⟩,hst,h0,hvs⟩:=Zd hc hv
  simp only at h0 hvs
  subst h0
  have ho:=hc.off.lt (by omega:0 < 8)
  have sm:=qi ho hv
  have s1:=sm.Zao
  have s2:=sm.Zai
  have s3:=sm.Zae
  obtain ⟨⟨L,e⟩,hr,hR⟩:=zeH hc hst hvs
  unfold jP
  refine Ret.bindE hr ?_
  simp only at hR
  rcases hR with ⟨he,h⟩ | ⟨he,hL⟩
  case inr=>
    rw [show (((L,e):List Zac×Int).2 == 0)=false from beq_eq_false_iff_ne.2 he]
    exact Ret.some (.inl ⟨he,rfl⟩)
  subst he
  refine Ret.ite (fun _ => ?_) (fun h=>by cases h)
  obtain ⟨np,hnp⟩:∃ np:Nat,c.Zao=(np:Int):=⟨c.Zao.toNat,by omega⟩
  have hlen:=h.inv.len
  refine Ret.bind (P:=fun o:List Zaj ⊕ Int=>(∃ F,o=.inl F∧ForcedL c s0 np F∧∀ p:Nat,p < np→∃ a,js c (p:Int)=some (a,0)∧ArOk c (p:Int) (atO s0) a)∨(∃ e,o=.inr e∧e≠0)) ?_ ?_
  · rw [hnp]
    refine Ret.forL (fun i F=>ForcedL c s0 i F∧∀ p:Nat,p < i→∃ a,js c (p:Int)=some (a,0)∧ArOk c (p:Int) (atO s0) a) (by omega) ⟨⟨fun f hf=>by simp at hf,fun p hp=>by omega,by simp,by simp⟩,fun p hp=>by omega⟩ (fun i F hi hF => ?_) (fun F hF=>.inl ⟨F,rfl,hF⟩)
    obtain ⟨hF,hBs⟩:=hF
    have hFl:=hF.len
    obtain ⟨⟨a,e⟩,hb,hB⟩:=zhR hc (i:Int)
    refine Ret.bind (P:=fun o:List Zaj ⊕ Int=>(∃ F',o=.inl F'∧ForcedL c s0 (i+1) F'∧e=0∧ArOk c (i:Int) (atO s0) a)∨(∃ e,o=.inr e∧e≠0)) ?_ ?_
    · refine Ret.bindE hb ?_
      rcases hB with ⟨he,ha⟩ | ⟨he,s1',hst',hv1,A⟩
      · simp only at he
        rw [show (((a,e):ZaF×Int).2 == 0)=false from beq_eq_false_iff_ne.2 he]
        exact Ret.some (.inr ⟨e,rfl,he⟩)
      · simp only at he A
        subst he
        have:=W7 hst hst'
        subst this
        refine Ret.ite (fun _ => ?_) (fun h=>by cases h)
        obtain ⟨r,hrr,hl,hro,hbd⟩:=zeM hc A
        refine Ret.bindE hrr ?_
        have hl:r.length=a.Zaw.length:=hl
        have hpos:=A.pos
        refine Ret.bindE (v:=at_ r 0) (zl (i:=0) (xO (by omega))) ?_
        have hfst:=A.F.first
        rw [List.getElem?_eq_getElem hpos] at hfst
        have hp0:a.Zaw[0]=atO s1':=Option.some.inj hfst
        have hrp:=(zjD A hro hpos).safe
        rw [hp0] at hrp
        refine Ret.ite (fun hd => ?_) (fun hd => ?_)
        · have hd:=of_decide_eq_true hd
          refine Ret.bind (zgr hc A hl hro hbd hd) ?_
          intro tr htr
          refine Ret.bindE (x:=ja 1 (i:Int) (-1) (-1) tr) rfl ?_
          refine Ret.bindE (jy (by simp;omega)) ?_
          have hns:xP c (i:Int) (atO s1')=false:=by
            cases hq:xP c (i:Int) (atO s1') with
            | false=>rfl
            | true=>have:=hrp.2 (YH.1 hq);omega
          exact Ret.some (.inl ⟨_,rfl,hF.push hns htr,rfl,A⟩)
        · have hd:=of_decide_eq_false hd
          have:=(hro 0 hpos).1
          have hsf:xP c (i:Int) (atO s1')=true:=YH.2 (hrp.1 (by omega))
          exact Ret.some (.inl ⟨_,rfl,hF.skip hsf,rfl,A⟩)
    · rintro o (⟨F',rfl,h1,rfl,h2⟩ | ⟨e',rfl,he'⟩)
      · refine Ret.some ⟨h1,fun p hp => ?_⟩
        by_cases e:p=i
        · subst e;exact ⟨a,hb,h2⟩
        · exact hBs p (by omega)
      · exact Ret.some (.inr ⟨e',rfl,he'⟩)
  rintro o (⟨F,rfl,hF,hBs⟩ | ⟨e,rfl,he⟩)
  case inr=>exact Ret.some (.inl ⟨he,rfl⟩)
  simp only [Sum.elim_inl]
  have hFl:=hF.len
  refine Ret.bind (P:=fun o:(List Zaj×List Zaj) ⊕ Unit=>o=.inl (F++xQ L c.Zae.length,wd c L c.Zae.length)) (Ret.forL (fun i s=>s=(F++xQ L i,wd c L i)) (by omega) (by simp [xQ,wd]) (fun i s hi hs => ?_) (fun s hs=>by rw [hs])) ?_
  · subst hs
    have l1:=Js L i
    have l2:=Jt c L i
    refine Ret.bind (P:=fun s=>s=(F++xQ L (i+1),wd c L (i+1))) ?_ (fun s hs=>Ret.some hs)
    rw [zc0,zc1]
    unfold Jf
    refine Ret.bindE (zgm h hi) ?_
    refine Ret.ite (fun hd => ?_) (fun hd => ?_)
    · refine Ret.bindE (x:=ja 2 (-1) (i:Int) (-1) []) rfl ?_
      refine Ret.bindE (jy (by simp;omega)) ?_
      exact Ret.some (by rw [hd];simp [jN])
    · refine Ret.bindE (zjE h hi) ?_
      refine Ret.ite (fun hu => ?_) (fun hu => ?_)
      · refine Ret.bindE (x:=ja 3 (-1) (i:Int) (-1) []) rfl ?_
        refine Ret.bindE (jy (by simp;omega)) ?_
        exact Ret.some (by rw [hd,hu];simp [wc])
      · exact Ret.some (by rw [hd,hu];simp)
  rintro o rfl
  simp only [Sum.elim_inl]
  have l1:=Js L c.Zae.length
  have l2:=Jt c L c.Zae.length
  refine Ret.bindE (jy (by simp;omega)) ?_
  refine Ret.bind (zbo hc h hvs) ?_
  intro C hC
  have hCl:=hC.len
  have hbig:c.Zae.length*c.Zae.length≤400*400:=Nat.mul_le_mul (by omega) (by omega)
  refine Ret.bindE (jy (by simp;omega)) ?_
  exact Ret.some (.inr ⟨rfl,s0,L,hst,hvs,hr,h,fun p hp=>hBs p (by omega),F,C,rfl,by rw [hnp];exact hF,hC⟩)
end
end
end Go.Proofs.YtlpmnmbebkdocaaGreatDoor
namespace Go.Proofs.YtlpmnmbebkdocaaGreatDoor
set_option linter.unusedSimpArgs false
set_option linter.unusedVariables false
set_option maxRecDepth 100000
def Le {α:Type} (x y:Option α):Prop:=∀ r,x=some r→y=some r
theorem Le.refl {α:Type} (x:Option α):Le x x:=fun _ h=>h
theorem Le.bind {α β:Type} {x y:Option α} {f g:α→Option β} (h:Le x y) (hf:∀ a,Le (f a) (g a)):Le (x.bind f) (y.bind g):=fun r hr=>by
  obtain ⟨a,h1,h2⟩:=Option.bind_eq_some_iff.1 hr
  rw [h a h1];exact hf a r h2
theorem Le.cond {α:Type} (b:Bool) {x y x' y':Option α} (h1:Le x x') (h2:Le y y'):Le (bif b then x else y) (bif b then x' else y'):=by
  cases b
  · exact h2
  · exact h1
theorem Le.elim {α β γ:Type} {f f':α→Option γ} {g g':β→Option γ} (h1:∀ a,Le (f a) (f' a)) (h2:∀ a,Le (g a) (g' a)) (o:α ⊕ β):Le (Sum.elim f g o) (Sum.elim f' g' o):=by
  cases o
  · exact h1 _
  · exact h2 _
theorem Le.forFrom {σ ρ:Type} {f g:Nat→σ→Option (σ ⊕ ρ)} (h:∀ i s,Le (f i s) (g i s)):∀ (k i:Nat) (s:σ),Le (forFrom f i k s) (forFrom g i k s)
  | 0,i,s=>Le.refl _
  | k+1,i,s=>fun r hr=>by
    simp only [Go.Proofs.YtlpmnmbebkdocaaGreatDoor.forFrom] at hr ⊢
    split at hr
    · cases hr
    · rename_i e;rw [h i s _ e];exact hr
    · rename_i e;rw [h i s _ e];exact Le.forFrom h k (i+1) _ r hr
theorem Le.forR {σ ρ:Type} {f g:Nat→σ→Option (σ ⊕ ρ)} (h:∀ i s,Le (f i s) (g i s)) (n:Int) (s:σ):Le (forR n f s) (forR n g s):=fun r hr=>by
  obtain ⟨h1,h2⟩:=Yd hr
  rw [ZX h1];exact Le.forFrom h _ _ _ r h2
theorem Le.iterN {σ ρ:Type} {f g:σ→Option (σ ⊕ ρ)} (h:∀ s,Le (f s) (g s)):∀ (k:Nat) (s:σ),Le (Go.Proofs.YtlpmnmbebkdocaaGreatDoor.iterN f k s) (Go.Proofs.YtlpmnmbebkdocaaGreatDoor.iterN g k s)
  | 0,s=>Le.refl _
  | k+1,s=>fun r hr=>by
    simp only [Go.Proofs.YtlpmnmbebkdocaaGreatDoor.iterN] at hr ⊢
    split at hr
    · cases hr
    · rename_i e;rw [h s _ e];exact hr
    · rename_i e;rw [h s _ e];exact Le.iterN h k _ r hr
theorem Le.iter {σ ρ:Type} {f g:σ→Option (σ ⊕ ρ)} (h:∀ s,Le (f s) (g s)) (k:Nat) (s:σ):Le (Go.Proofs.YtlpmnmbebkdocaaGreatDoor.iterN f k s) (Go.Proofs.YtlpmnmbebkdocaaGreatDoor.iter g s):=fun r hr=>wp.2 ⟨k,Le.iterN h k s r hr⟩
def VN:Nat→Nat→List UInt8
  | 0,u=>[]
  | f+1,u=>if u < 10 then [UInt8.ofNat (48+u)] else VN f (u / 10)++[UInt8.ofNat (48+u % 10)]
theorem VO:∀ (f u:Nat),u < 10 ^ (f+1)→VN (f+1) u=Lib.decDigits u
  | 0,u,h=>by
    rw [Lib.decDigits]
    simp only [VN]
    rw [if_pos (by omega),dif_pos (by omega)]
  | f+1,u,h=>by
    rw [Lib.decDigits,VN]
    by_cases hu:u < 10
    · rw [if_pos hu,dif_pos hu]
    · rw [if_neg hu,dif_neg hu,VO f (u / 10) (by rw [Nat.pow_succ] at h;omega)]
def jU (n:Int):Bool:=decide (-1000 < n)&&decide (n < 1000)
def zc2 (n:Int):List UInt8:=if n < 0 then 45::VN 4 n.natAbs else VN 4 n.toNat
theorem zgt {n:Int} (h:jU n=true):zc2 n=Lib.itoa n:=by
  simp only [jU,Bool.and_eq_true,decide_eq_true_eq] at h
  unfold zc2 Lib.itoa
  rw [VO 3 n.natAbs (by omega),VO 3 n.toNat (by omega)]
def jV (n:Int):List UInt8:=zc2 n++[32]
theorem jz {n:Int} (h:jU n=true):jV n=zB n:=by unfold jV zB;rw [zgt h]
def Ki (m:zw):List UInt8:=jV m.Zan++jV m.left++jV m.got++jV m.Zau++zV m.ZaB
def ZK (m:zw):Bool:=jU m.Zan&&(jU m.left&&(jU m.got&&jU m.Zau))
def W8 (p:Zah):List UInt8:=zV p.own++jV p.state.day++p.state.Zag.flatMap jV++p.state.used.flatMap zV++p.state.Zal.flatMap Ki
def Ju (p:Zah):Bool:=jU p.state.day&&(p.state.Zag.all jU&&p.state.Zal.all ZK)
theorem xI {α β:Type} {f g:α→List β}:∀ {l:List α},(∀ a∈l,f a=g a)→l.flatMap f=l.flatMap g
  | [],_=>rfl
  | a::l,h=>by rw [List.flatMap_cons,List.flatMap_cons,h a List.mem_cons_self,xI fun b hb=>h b (List.mem_cons_of_mem _ hb)]
theorem zgu {p:Zah} (h:Ju p=true):W8 p=qo p:=by
  simp only [Ju,Bool.and_eq_true,List.all_eq_true] at h
  unfold W8 qo
  rw [jz h.1,xI (f:=jV) (g:=zB) (fun a ha=>jz (h.2.1 a ha)),xI (f:=Ki) (g:=qP) (fun a ha=>by
    have:=h.2.2 a ha
    simp only [ZK,Bool.and_eq_true] at this
    show jV a.Zan++jV a.left++jV a.got++jV a.Zau++zV a.ZaB=zB a.Zan++zB a.left++zB a.got++zB a.Zau++zV a.ZaB
    rw [jz this.1,jz this.2.1,jz this.2.2.1,jz this.2.2.2])]
theorem ji {n:Int} (h:jU n=true):jd n=true:=by
  simp only [jU,jd,Bool.and_eq_true,decide_eq_true_eq] at h ⊢
  omega
def yy (p:Zah):Option ByteArray:=bif Ju p&&decide ((W8 p).length≤1000000000) then some ⟨(W8 p).toArray⟩ else none
theorem zbV (p:Zah):Le (yy p) (jE p):=fun r h=>by
  unfold yy at h
  cases hq:(Ju p&&decide ((W8 p).length≤1000000000)) with
  | false=>rw [hq] at h;cases h
  | true=>
    rw [hq] at h
    simp only [Bool.and_eq_true,decide_eq_true_eq] at hq
    have e:=zgu hq.1
    unfold jE
    rw [if_pos,←e]
    · exact h
    · have h1:=hq.1
      simp only [Ju,Bool.and_eq_true,List.all_eq_true] at h1
      simp only [okP,Bool.and_eq_true,decide_eq_true_eq,List.all_eq_true]
      refine ⟨⟨⟨ji h1.1,fun x hx=>ji (h1.2.1 x hx)⟩,fun m hm => ?_⟩,by rw [←e];exact hq.2⟩
      have:=h1.2.2 m hm
      simp only [ZK,Bool.and_eq_true] at this
      exact ⟨⟨⟨ji this.1,ji this.2.1⟩,ji this.2.2.1⟩,ji this.2.2.2⟩
noncomputable def W9 (p1:Zab) (p2:Int) (p3:List Int) (p4:Nat) (p5:List Bool) (p6:Nat) (p7:List zw) (p8:Nat):Option ((List zw)):=
  (Option.bind (iterN (σ:=Bool×(List zw)) (ρ:=(List zw)) (fun s1=>(bif s1.1 then (Option.bind (forR (σ:=Bool×(List zw)) (ρ:=Unit) (p1.Zae.length:Int) (fun i2 s2=>(Option.bind (Option.bind (ze p1.Zae (i2:Int)) fun e1=>(Option.bind (eqN p4 p3.length) fun g1=>(Option.bind (eqN p6 p5.length) fun g2=>(Option.bind (eqN p8 s2.2.length) fun g3=>(Option.bind (vq p1 ({day:=p2,Zag:=p3,used:=p5,Zal:=s2.2}:Zac) (i2:Int)) fun r1=>(bif r1 then (Option.bind (bif (e1.kind == 4) then some (-1) else (Option.bind (zk p4 e1.Zap) fun k1=>(Option.bind (p3[k1]?) fun e2=>some e2))) fun (v1:Int)=>(Option.bind (zk p8 (i2:Int)) fun k2=>(Option.bind (s2.2[k2]?) fun e3=>some (true,(s2.2.set k2 ({Zan:=1,left:=e1.after,got:=0,Zau:=v1,ZaB:=false}:zw)))))) else some (s2.1,s2.2))))))) fun (v2:Bool×(List zw))=>some (.inl (v2.1,v2.2)))) (false,s1.2)) (Sum.elim (fun (s2:Bool×(List zw))=>some (.inl (s2.1,s2.2))) (fun _=>none))) else some (.inr s1.2))) 40 (true,p7)) (fun (y1:(List zw))=>some y1))
theorem zaP (p1:Zab) (p2:Int) (p3:List Int) (p4:Nat) (p5:List Bool) (p6:Nat) (p7:List zw) (p8:Nat):Le (W9 p1 p2 p3 p4 p5 p6 p7 p8) (x9 p1 p2 p3 p4 p5 p6 p7 p8):=by
  unfold W9 x9
  repeat' (first | with_reducible exact Le.refl _ | with_reducible refine Le.bind ?_ (fun _ => ?_) | with_reducible refine Le.cond _ ?_ ?_ | with_reducible refine Le.forR (fun _ _ => ?_) _ _ | with_reducible refine Le.iter (fun _ => ?_) _ _ | with_reducible refine Le.elim (fun _ => ?_) (fun _ => ?_) _)
noncomputable def ZL (c:Zab):Option (Zac×Int):=
  (Option.bind (vp c) fun r1=>(bif (r1.1 == 0) then (Option.bind (jl 8 c.Zag) fun e1=>(Option.bind (mkN 1 (c.Zai.length:Int)) fun k1=>(Option.bind (mkN 40 (c.Zae.length:Int)) fun k2=>(Option.bind (forR (σ:=(List zw)) (ρ:=Unit) (c.Zae.length:Int) (fun i1 s1=>(Option.bind (Option.bind (ze c.Zae (i1:Int)) fun e2=>(Option.bind (zk k2 (i1:Int)) fun k3=>(Option.bind (s1[k3]?) fun e3=>(bif e2.ZaA then (Option.bind (zk k2 (i1:Int)) fun k4=>(Option.bind ((s1.set k3 ({Zan:=0,left:=0,got:=0,Zau:=(-1),ZaB:=false}:zw))[k4]?) fun e4=>some ((s1.set k3 ({Zan:=0,left:=0,got:=0,Zau:=(-1),ZaB:=false}:zw)).set k4 ({e4 with Zan:=5}:zw)))) else some (s1.set k3 ({Zan:=0,left:=0,got:=0,Zau:=(-1),ZaB:=false}:zw)))))) fun (v1:(List zw))=>some (.inl v1))) (List.replicate k2 ({Zan:=0,left:=0,got:=0,Zau:=0,ZaB:=false}:zw))) (Sum.elim (fun (s1:(List zw))=>(Option.bind (W9 c 0 e1 e1.length (List.replicate k1 false) k1 s1 k2) fun r2=>(Option.bind (eqN k1 (List.replicate k1 false).length) fun g1=>(Option.bind (eqN k2 r2.length) fun g2=>some (({day:=0,Zag:=e1,used:=(List.replicate k1 false),Zal:=r2}:Zac),0))))) (fun _=>none)))))) else some (({day:=0,Zag:=[],used:=[],Zal:=[]}:Zac),1)))
theorem XH (c:Zab):Le (ZL c) (qx c):=by
  unfold ZL qx
  repeat' (first | with_reducible exact Le.refl _ | with_reducible exact zaP _ _ _ _ _ _ _ _ | with_reducible refine Le.bind ?_ (fun _ => ?_) | with_reducible refine Le.cond _ ?_ ?_ | with_reducible refine Le.forR (fun _ _ => ?_) _ _ | with_reducible refine Le.iter (fun _ => ?_) _ _ | with_reducible refine Le.elim (fun _ => ?_) (fun _ => ?_) _)
noncomputable def vE (l:List Int) (v:Int):Option (Int×Bool):=
  (Option.bind (Option.bind (iterN (σ:=Int×Int) (ρ:=Int) (fun s1=>(bif decide (s1.1 < s1.2) then (Option.bind (Q0 .u64 .u64 (IntKind.u64.wrap (IntKind.i64.wrap (s1.1+s1.2))) 1) fun e1=>(Option.bind (ze l (IntKind.i64.wrap e1)) fun e2=>(Option.bind (ZA e2 v) fun r1=>(bif r1 then some (.inl ((IntKind.i64.wrap ((IntKind.i64.wrap e1)+1)),s1.2)) else some (.inl (s1.1,(IntKind.i64.wrap e1))))))) else some (.inr s1.1))) 40 (0,(l.length:Int))) (fun (y1:Int)=>some y1)) fun (v1:Int)=>(Option.bind (bif decide (v1 < (l.length:Int)) then (Option.bind (ze l v1) fun e3=>(bif (e3 == v) then some true else (Option.bind (yO e3) fun r2=>(bif r2 then (Option.bind (yO v) fun r3=>some r3) else some false)))) else some false) fun v2=>some (v1,v2)))
theorem Va (l:List Int) (v:Int):Le (vE l v) (jr l v):=by
  unfold vE jr
  repeat' (first | with_reducible exact Le.refl _ | with_reducible refine Le.bind ?_ (fun _ => ?_) | with_reducible refine Le.cond _ ?_ ?_ | with_reducible refine Le.forR (fun _ _ => ?_) _ _ | with_reducible refine Le.iter (fun _ => ?_) _ _ | with_reducible refine Le.elim (fun _ => ?_) (fun _ => ?_) _)
noncomputable def zc3 (p1:Zab) (p2:Int) (p3:List Int) (p4:Nat) (p5:List Bool) (p6:Nat) (p7:List zw) (p8:Nat):Option ((List zw)):=
  (Option.bind (vE p1.off p2) fun r1=>(Option.bind (Option.bind (j9 p1 p2 p3 p4 p5 p6 p7 p8) fun r2=>(Option.bind (forR (σ:=(List zw)) (ρ:=(List zw)) (p8:Int) (fun i1 s1=>(Option.bind (Option.bind (zk p8 (i1:Int)) fun k1=>(Option.bind (s1[k1]?) fun e1=>(Option.bind (jn e1) fun r3=>(bif r3 then (Option.bind (Option.bind (ze p1.Zae (i1:Int)) fun e2=>(Option.bind (Option.bind (zk p8 (i1:Int)) fun k2=>(Option.bind (s1[k2]?) fun e3=>(bif e3.ZaB then some true else (bif e2.ZaD then some r1.2 else some false)))) fun v1=>(bif v1 then some s1 else (Option.bind (zk p8 (i1:Int)) fun k3=>(Option.bind (s1[k3]?) fun e4=>(Option.bind (zk p8 (i1:Int)) fun k4=>(Option.bind ((s1.set k3 ({e4 with left:=(IntKind.i64.wrap (e4.left - 1))}:zw))[k4]?) fun e5=>(bif (e5.left == 0) then (Option.bind (bif (e2.kind == (0:Int)) then none else (bif (e2.kind == (1:Int)) then (Option.bind (WC (i1:Int) p1 p2 p3 p4 p5 p6 (s1.set k3 ({e4 with left:=(IntKind.i64.wrap (e4.left - 1))}:zw)) p8) fun r7=>some r7) else (bif (e2.kind == (2:Int)) then (Option.bind (wa (i1:Int) p1 p2 p3 p4 p5 p6 (s1.set k3 ({e4 with left:=(IntKind.i64.wrap (e4.left - 1))}:zw)) p8) fun r6=>some r6) else (bif (e2.kind == (3:Int)) then (Option.bind (kT (i1:Int) p1 p2 p3 p4 p5 p6 (s1.set k3 ({e4 with left:=(IntKind.i64.wrap (e4.left - 1))}:zw)) p8) fun r5=>some r5) else (bif (e2.kind == (4:Int)) then (Option.bind (kT (i1:Int) p1 p2 p3 p4 p5 p6 (s1.set k3 ({e4 with left:=(IntKind.i64.wrap (e4.left - 1))}:zw)) p8) fun r4=>some r4) else none))))) fun v2=>some v2) else some (s1.set k3 ({e4 with left:=(IntKind.i64.wrap (e4.left - 1))}:zw)))))))))) fun (v3:(List zw))=>some ((!true),v3)) else some (false,s1))))) fun (v4:Bool×(List zw))=>(bif v4.1 then some (.inr v4.2) else some (.inl v4.2)))) p7) (Sum.elim (fun (s1:(List zw))=>some s1) (fun (y1:(List zw))=>some y1)))) fun (v5:(List zw))=>(Option.bind (W9 p1 (IntKind.i64.wrap (p2+1)) p3 p4 p5 p6 v5 p8) fun r8=>some r8)))
theorem zjG (p1:Zab) (p2:Int) (p3:List Int) (p4:Nat) (p5:List Bool) (p6:Nat) (p7:List zw) (p8:Nat):Le (zc3 p1 p2 p3 p4 p5 p6 p7 p8) (d_70a p1 p2 p3 p4 p5 p6 p7 p8):=by
  unfold zc3 d_70a
  repeat' (first | with_reducible exact Le.refl _ | with_reducible exact Va _ _ | with_reducible exact zaP _ _ _ _ _ _ _ _ | with_reducible refine Le.bind ?_ (fun _ => ?_) | with_reducible refine Le.cond _ ?_ ?_ | with_reducible refine Le.forR (fun _ _ => ?_) _ _ | with_reducible refine Le.iter (fun _ => ?_) _ _ | with_reducible refine Le.elim (fun _ => ?_) (fun _ => ?_) _)
noncomputable def zc4 (p1:Int) (p2:Zab) (p3:Int) (p4:List Int) (p5:Nat) (p6:List Bool) (p7:Nat) (p8:List zw) (p9:Nat):Option ((List Int)×(List Bool)×(List zw)):=
  (Option.bind (ze p2.Zai p1) fun e1=>(Option.bind (bif (e1.kind == 1) then some false else (Option.bind (zk p7 p1) fun k1=>(Option.bind (p6[k1]?) fun e2=>some e2))) fun v1=>(bif v1 then some (p4,p6,p8) else (Option.bind (Option.bind (j9 p2 p3 p4 p5 p6 p7 p8 p9) fun r1=>(Option.bind (forR (σ:=(List zw)) (ρ:=(List zw)) (p9:Int) (fun i1 s1=>(Option.bind (Option.bind (zk p9 (i1:Int)) fun k2=>(Option.bind (s1[k2]?) fun e3=>(Option.bind (jn e3) fun r2=>(bif r2 then (Option.bind (Option.bind (ze p2.Zae (i1:Int)) fun e4=>(bif (p1 == e4.pause) then (Option.bind (zk p9 (i1:Int)) fun k3=>(Option.bind (s1[k3]?) fun e5=>some (s1.set k3 ({e5 with ZaB:=true}:zw)))) else (Option.bind (ze p2.Zae (i1:Int)) fun e6=>(bif (p1 == e6.ZaC) then (Option.bind (zk p9 (i1:Int)) fun k4=>(Option.bind (s1[k4]?) fun e7=>some (s1.set k4 ({e7 with ZaB:=false}:zw)))) else some s1)))) fun (v2:(List zw))=>some ((!true),v2)) else some (false,s1))))) fun (v3:Bool×(List zw))=>(bif v3.1 then some (.inr v3.2) else some (.inl v3.2)))) p8) (Sum.elim (fun (s1:(List zw))=>some s1) (fun (y1:(List zw))=>some y1)))) fun (v4:(List zw))=>(Option.bind (eqN p5 p4.length) fun g1=>(Option.bind (eqN p7 p6.length) fun g2=>(Option.bind (eqN p9 v4.length) fun g3=>(Option.bind (km p2 ({day:=p3,Zag:=p4,used:=p6,Zal:=v4}:Zac) p1) fun r3=>(Option.bind (Option.bind (j9 p2 p3 p4 p5 p6 p7 v4 p9) fun r4=>(Option.bind (forR (σ:=(List zw)) (ρ:=(List zw)) (p9:Int) (fun i2 s2=>(Option.bind (Option.bind (zk p9 (i2:Int)) fun k5=>(Option.bind (s2[k5]?) fun e8=>(Option.bind (jn e8) fun r5=>(bif r5 then (Option.bind (Option.bind (ze p2.Zae (i2:Int)) fun e9=>(Option.bind (bif (e9.act == p1) then (bif (e9.kind == 4) then some true else (Option.bind (zk p9 (i2:Int)) fun k6=>(Option.bind (s2[k6]?) fun e10=>some (e10.Zau == r3)))) else some false) fun v5=>(bif v5 then (Option.bind (bif (e9.kind == (0:Int)) then none else (bif (e9.kind == (1:Int)) then (Option.bind (WE (i2:Int) p2 p3 p4 p5 p6 p7 s2 p9) fun r9=>some r9) else (bif (e9.kind == (2:Int)) then (Option.bind (WD (i2:Int) p2 p3 p4 p5 p6 p7 s2 p9) fun r8=>some r8) else (bif (e9.kind == (3:Int)) then (Option.bind (wa (i2:Int) p2 p3 p4 p5 p6 p7 s2 p9) fun r7=>some r7) else (bif (e9.kind == (4:Int)) then (Option.bind (wa (i2:Int) p2 p3 p4 p5 p6 p7 s2 p9) fun r6=>some r6) else none))))) fun v6=>some v6) else some s2))) fun (v7:(List zw))=>some ((!true),v7)) else some (false,s2))))) fun (v8:Bool×(List zw))=>(bif v8.1 then some (.inr v8.2) else some (.inl v8.2)))) v4) (Sum.elim (fun (s2:(List zw))=>some s2) (fun (y2:(List zw))=>some y2)))) fun (v9:(List zw))=>(Option.bind (bif (e1.kind == 1) then some (p4,p6,v9) else (Option.bind (WF p1 p2 p3 p4 p5 p6 p7 v9 p9) fun r10=>some (r10.1,r10.2.1,r10.2.2))) fun (v10:(List Int)×(List Bool)×(List zw))=>(Option.bind (W9 p2 p3 v10.1 p5 v10.2.1 p7 v10.2.2 p9) fun r11=>some (v10.1,v10.2.1,r11))))))))))))
theorem zjH (p1:Int) (p2:Zab) (p3:Int) (p4:List Int) (p5:Nat) (p6:List Bool) (p7:Nat) (p8:List zw) (p9:Nat):Le (zc4 p1 p2 p3 p4 p5 p6 p7 p8 p9) (Qh p1 p2 p3 p4 p5 p6 p7 p8 p9):=by
  unfold zc4 Qh
  repeat' (first | with_reducible exact Le.refl _ | with_reducible exact zaP _ _ _ _ _ _ _ _ | with_reducible refine Le.bind ?_ (fun _ => ?_) | with_reducible refine Le.cond _ ?_ ?_ | with_reducible refine Le.forR (fun _ _ => ?_) _ _ | with_reducible refine Le.iter (fun _ => ?_) _ _ | with_reducible refine Le.elim (fun _ => ?_) (fun _ => ?_) _)
noncomputable def yz (c:Zab) (s:Zac) (step:Int):Option (Zac×Int):=
  (Option.bind (Option.bind (j8 c s) fun r1=>(bif r1 then (bif decide (step < (-1)) then some true else some (decide ((c.Zai.length:Int)≤step))) else some true)) fun v1=>(bif v1 then some (({day:=0,Zag:=[],used:=[],Zal:=[]}:Zac),1) else (bif (s.day == c.Zat) then some (({day:=0,Zag:=[],used:=[],Zal:=[]}:Zac),13) else (Option.bind (mkN 8 (s.Zag.length:Int)) fun k1=>(Option.bind (mkN 1 (s.used.length:Int)) fun k2=>(Option.bind (mkN 40 (s.Zal.length:Int)) fun k3=>(Option.bind (xq (α:=Int) k1 (List.replicate k1 0) s.Zag) fun e1=>(Option.bind (xq (α:=Bool) k2 (List.replicate k2 false) s.used) fun e2=>(Option.bind (xq (α:=zw) k3 (List.replicate k3 ({Zan:=0,left:=0,got:=0,Zau:=0,ZaB:=false}:zw)) s.Zal) fun e3=>(Option.bind (bif (step == (-1)) then (Option.bind (zc3 c s.day e1 k1 e2 k2 e3 k3) fun r2=>some (e1,e2,r2,(IntKind.i64.wrap (s.day+1)))) else (Option.bind (zc4 step c s.day e1 k1 e2 k2 e3 k3) fun r3=>some (r3.1,r3.2.1,r3.2.2,s.day))) fun (v2:(List Int)×(List Bool)×(List zw)×Int)=>(Option.bind (eqN k1 v2.1.length) fun g1=>(Option.bind (eqN k2 v2.2.1.length) fun g2=>(Option.bind (eqN k3 v2.2.2.1.length) fun g3=>some (({day:=v2.2.2.2,Zag:=v2.1,used:=v2.2.1,Zal:=v2.2.2.1}:Zac),0))))))))))))))
theorem ZM (c:Zab) (s:Zac) (step:Int):Le (yz c s step) (d_Step c s step):=by
  unfold yz d_Step
  repeat' (first | with_reducible exact Le.refl _ | with_reducible exact zjG _ _ _ _ _ _ _ _ | with_reducible exact zjH _ _ _ _ _ _ _ _ _ | with_reducible refine Le.bind ?_ (fun _ => ?_) | with_reducible refine Le.cond _ ?_ ?_ | with_reducible refine Le.forR (fun _ _ => ?_) _ _ | with_reducible refine Le.iter (fun _ => ?_) _ _ | with_reducible refine Le.elim (fun _ => ?_) (fun _ => ?_) _)
noncomputable def zaQ (c:Zab) (Zaa:Int) (p:Zah):Option (ZaF×Int):=
  (Option.bind (wT c Zaa p) fun r1=>(bif r1 then (Option.bind (wi p.state) fun r2=>(Option.bind (yy p) fun r3=>(Option.bind (α:=((List Zah)×(List (List Zar))) ⊕ Unit) (Option.bind (iterN (σ:=Int×(List Zah)×(List (List Zar))×(List (ByteArray×Int))) (ρ:=((List Zah)×(List (List Zar))) ⊕ Unit) (fun s1=>(bif decide (s1.1 < (s1.2.1.length:Int)) then (Option.bind (α:=((List Zah)×(List (ByteArray×Int))×(List Zar)) ⊕ Unit) (Option.bind (ze s1.2.1 s1.1) fun e1=>(Option.bind (WG c Zaa e1) fun r4=>(Option.bind (α:=((List Zah)×(List (ByteArray×Int))×(List Zar)) ⊕ (Unit ⊕ ((List Zah)×(List (ByteArray×Int))×(List Zar)))) (bif e1.own then (Option.bind (wi e1.state) fun r5=>(Option.bind (yy ({state:=r5,own:=false}:Zah)) fun r6=>(Option.bind (α:=(Int×(List Zah)×(List (ByteArray×Int))) ⊕ Unit) (bif ((zq r6 s1.2.2.2).isSome) then some (.inl (((zq r6 s1.2.2.2).getD 0),s1.2.1,s1.2.2.2)) else (bif ((s1.2.1.length:Int) == 1500) then some (.inr ()) else (Option.bind (zO (α:=Zah) 88 s1.2.1 [({state:=r5,own:=false}:Zah)]) fun e2=>some (.inl ((s1.2.1.length:Int),e2,(zP r6 (s1.2.1.length:Int) s1.2.2.2)))))) (Sum.elim (fun (v1:Int×(List Zah)×(List (ByteArray×Int)))=>(Option.bind (zO (α:=Zar) 16 [] [({step:=(-2),to:=v1.1}:Zar)]) fun e3=>(bif decide (c.Zat≤e1.state.day) then some (.inr (.inr (v1.2.1,v1.2.2,e3))) else some (.inl (v1.2.1,v1.2.2,e3))))) (fun (y1:Unit)=>some (.inr (.inl ()))))))) else (bif decide (c.Zat≤e1.state.day) then some (.inr (.inr (s1.2.1,s1.2.2.2,[]))) else some (.inl (s1.2.1,s1.2.2.2,[])))) (Sum.elim (fun (v2:(List Zah)×(List (ByteArray×Int))×(List Zar))=>(Option.bind (α:=((List Zah)×(List (ByteArray×Int))×(List Zar)) ⊕ Unit) (bif e1.own then some (.inl (v2.1,v2.2.1,v2.2.2)) else (Option.bind (yz c e1.state (-1)) fun r7=>(Option.bind (yy ({state:=r7.1,own:=true}:Zah)) fun r8=>(Option.bind (α:=(Int×(List Zah)×(List (ByteArray×Int))) ⊕ Unit) (bif ((zq r8 v2.2.1).isSome) then some (.inl (((zq r8 v2.2.1).getD 0),v2.1,v2.2.1)) else (bif ((v2.1.length:Int) == 1500) then some (.inr ()) else (Option.bind (zO (α:=Zah) 88 v2.1 [({state:=r7.1,own:=true}:Zah)]) fun e4=>some (.inl ((v2.1.length:Int),e4,(zP r8 (v2.1.length:Int) v2.2.1)))))) (Sum.elim (fun (v3:Int×(List Zah)×(List (ByteArray×Int)))=>(Option.bind (zO (α:=Zar) 16 v2.2.2 [({step:=(-1),to:=v3.1}:Zar)]) fun e5=>some (.inl (v3.2.1,v3.2.2,e5)))) (fun (y4:Unit)=>some (.inr ()))))))) (Sum.elim (fun (v4:(List Zah)×(List (ByteArray×Int))×(List Zar))=>(Option.bind (forR (σ:=(List Zah)×(List (ByteArray×Int))×(List Zar)) (ρ:=(List Zah)×(List (ByteArray×Int))×(List Zar)) (c.Zai.length:Int) (fun i2 s2=>(Option.bind (α:=((List Zah)×(List (ByteArray×Int))×(List Zar)) ⊕ Unit) (Option.bind (ze c.Zai (i2:Int)) fun e6=>(Option.bind (bif (e6.Zap == (-1)) then some (-1) else (Option.bind (ze e1.state.Zag e6.Zap) fun e7=>some e7)) fun (v5:Int)=>(bif ((v5 == Zaa) == e1.own) then (Option.bind (yz c e1.state (i2:Int)) fun r9=>(Option.bind (ZB r9.1 e1.state) fun r10=>(bif r10 then some (.inl (s2.1,s2.2.1,s2.2.2)) else (Option.bind (yy ({state:=r9.1,own:=true}:Zah)) fun r11=>(Option.bind (α:=(Int×(List Zah)×(List (ByteArray×Int))) ⊕ Unit) (bif ((zq r11 s2.2.1).isSome) then some (.inl (((zq r11 s2.2.1).getD 0),s2.1,s2.2.1)) else (bif ((s2.1.length:Int) == 1500) then some (.inr ()) else (Option.bind (zO (α:=Zah) 88 s2.1 [({state:=r9.1,own:=true}:Zah)]) fun e8=>some (.inl ((s2.1.length:Int),e8,(zP r11 (s2.1.length:Int) s2.2.1)))))) (Sum.elim (fun (v6:Int×(List Zah)×(List (ByteArray×Int)))=>(Option.bind (zO (α:=Zar) 16 s2.2.2 [({step:=(i2:Int),to:=v6.1}:Zar)]) fun e9=>some (.inl (v6.2.1,v6.2.2,e9)))) (fun (y6:Unit)=>some (.inr ())))))))) else some (.inl (s2.1,s2.2.1,s2.2.2))))) (Sum.elim (fun (v7:(List Zah)×(List (ByteArray×Int))×(List Zar))=>some (.inl (v7.1,v7.2.1,v7.2.2))) (fun (y7:Unit)=>some (.inr (s2.1,s2.2.1,s2.2.2)))))) (v4.1,v4.2.1,v4.2.2)) (Sum.elim (fun (s2:(List Zah)×(List (ByteArray×Int))×(List Zar))=>some (.inl (s2.1,s2.2.1,s2.2.2))) (fun (y8:(List Zah)×(List (ByteArray×Int))×(List Zar))=>some (.inr ()))))) (fun (y5:Unit)=>some (.inr ()))))) (Sum.elim (fun (y2:Unit)=>some (.inr ())) (fun (y3:(List Zah)×(List (ByteArray×Int))×(List Zar))=>some (.inl (y3.1,y3.2.1,y3.2.2)))))))) (Sum.elim (fun (v8:(List Zah)×(List (ByteArray×Int))×(List Zar))=>(Option.bind (zO (α:=List Zar) 24 s1.2.2.1 [v8.2.2]) fun e10=>some (.inl ((IntKind.i64.wrap (s1.1+1)),v8.1,e10,v8.2.1)))) (fun (y9:Unit)=>some (.inr (.inr ()))))) else some (.inr (.inl (s1.2.1,s1.2.2.1))))) 40 (0,[({state:=r2,own:=p.own}:Zah)],[],(zP r3 0 []))) (Sum.elim (fun (y10:(List Zah)×(List (List Zar)))=>some (.inl (y10.1,y10.2))) (fun (y11:Unit)=>some (.inr ())))) (Sum.elim (fun (v9:(List Zah)×(List (List Zar)))=>some (({Zaa:=Zaa,Zaw:=v9.1,moves:=v9.2}:ZaF),0)) (fun (y12:Unit)=>some (({Zaa:=0,Zaw:=[],moves:=[]}:ZaF),3)))))) else some (({Zaa:=0,Zaw:=[],moves:=[]}:ZaF),1)))
theorem zhW (c:Zab) (Zaa:Int) (p:Zah):Le (zaQ c Zaa p) (xY c Zaa p):=by
  unfold zaQ xY
  repeat' (first | with_reducible exact Le.refl _ | with_reducible exact zbV _ | with_reducible exact ZM _ _ _ | with_reducible refine Le.bind ?_ (fun _ => ?_) | with_reducible refine Le.cond _ ?_ ?_ | with_reducible refine Le.forR (fun _ _ => ?_) _ _ | with_reducible refine Le.iter (fun _ => ?_) _ _ | with_reducible refine Le.elim (fun _ => ?_) (fun _ => ?_) _)
noncomputable def J1 (c:Zab) (Zaa:Int):Option (ZaF×Int):=
  (Option.bind (ZL c) fun r1=>(bif (r1.2 == 0) then (Option.bind (zaQ c Zaa ({state:=r1.1,own:=true}:Zah)) fun r2=>some (r2.1,r2.2)) else some (({Zaa:=0,Zaw:=[],moves:=[]}:ZaF),r1.2)))
theorem zaR (c:Zab) (Zaa:Int):Le (J1 c Zaa) (js c Zaa):=by
  unfold J1 js
  repeat' (first | with_reducible exact Le.refl _ | with_reducible exact XH _ | with_reducible exact zhW _ _ _ | with_reducible refine Le.bind ?_ (fun _ => ?_) | with_reducible refine Le.cond _ ?_ ?_ | with_reducible refine Le.forR (fun _ _ => ?_) _ _ | with_reducible refine Le.iter (fun _ => ?_) _ _ | with_reducible refine Le.elim (fun _ => ?_) (fun _ => ?_) _)
noncomputable def J2 (c:Zab) (a:ZaF):Option (List Int):=
  (Option.bind (xD c a) fun r1=>(bif r1 then (Option.bind (mkN 8 (a.Zaw.length:Int)) fun k1=>(Option.bind (mkN 8 (a.Zaw.length:Int)) fun k2=>(Option.bind (mkN 24 (a.Zaw.length:Int)) fun k3=>(Option.bind (forR (σ:=(List Int)×(List Int)×(List (List Int))×(List Int)) (ρ:=Unit) (a.Zaw.length:Int) (fun i1 s1=>(Option.bind (Option.bind (ze a.Zaw (i1:Int)) fun e1=>(Option.bind (ze a.moves (i1:Int)) fun e2=>(Option.bind (zk k1 (i1:Int)) fun k4=>(Option.bind (s1.1[k4]?) fun e3=>(Option.bind (zk k2 (i1:Int)) fun k5=>(Option.bind (s1.2.1[k5]?) fun e4=>(Option.bind (ze a.moves (i1:Int)) fun e5=>(Option.bind (forR (σ:=(List (List Int))) (ρ:=Unit) (e5.length:Int) (fun i2 s2=>(Option.bind (ze e5 (i2:Int)) fun e6=>(Option.bind (wu s2 k3 e6.to (i1:Int)) fun v1=>some (.inl v1)))) s1.2.2.1) (Sum.elim (fun (s2:(List (List Int)))=>(Option.bind (Jd c e1.state a.Zaa) fun r2=>(bif r2 then (Option.bind (zk k1 (i1:Int)) fun k6=>(Option.bind ((s1.1.set k4 (-1))[k6]?) fun e7=>(Option.bind (yp (i1:Int) s1.2.2.2 0) fun r3=>some (((s1.1.set k4 (-1)).set k6 0),(s1.2.1.set k5 (e2.length:Int)),s2,r3)))) else some ((s1.1.set k4 (-1)),(s1.2.1.set k5 (e2.length:Int)),s2,s1.2.2.2)))) (fun _=>none)))))))))) fun (v2:(List Int)×(List Int)×(List (List Int))×(List Int))=>some (.inl (v2.1,v2.2.1,v2.2.2.1,v2.2.2.2)))) ((List.replicate k1 0),(List.replicate k2 0),(List.replicate k3 []),[])) (Sum.elim (fun (s1:(List Int)×(List Int)×(List (List Int))×(List Int))=>(Option.bind (forR (σ:=(List Int)×(List Int)) (ρ:=Unit) (a.Zaw.length:Int) (fun i3 s3=>(Option.bind (Option.bind (ze a.Zaw (i3:Int)) fun e8=>(Option.bind (bif e8.own then (Option.bind (zk k2 (i3:Int)) fun k7=>(Option.bind (s1.2.1[k7]?) fun e9=>(bif (e9 == 0) then (Option.bind (zk k1 (i3:Int)) fun k8=>(Option.bind (s3.1[k8]?) fun e10=>some (e10 == (-1)))) else some false))) else some false) fun v3=>(bif v3 then (Option.bind (yq (i3:Int) 1 s3.1 k1 s3.2 0) fun r4=>some (r4.2,r4.1)) else some (s3.1,s3.2)))) fun (v4:(List Int)×(List Int))=>some (.inl (v4.1,v4.2)))) (s1.1,s1.2.2.2)) (Sum.elim (fun (s3:(List Int)×(List Int))=>(Option.bind (Option.bind (xZ s3.2 0) fun r5=>(Option.bind (iterN (σ:=Int×Bool×(List Int)×(List Int)×(List Int)×Int) (ρ:=(List Int)) (fun s4=>(bif s4.2.1 then (Option.bind (zk k3 s4.1) fun k9=>(Option.bind (s1.2.2.1[k9]?) fun e11=>(Option.bind (forR (σ:=(List Int)×(List Int)×(List Int)) (ρ:=Unit) (e11.length:Int) (fun i5 s5=>(Option.bind (ze e11 (i5:Int)) fun e12=>(Option.bind (ZC e12 s4.1 s5.2.1 k2 s5.1 k1 a s5.2.2 s4.2.2.2.2.2) fun r6=>some (.inl (r6.2.1,r6.1,r6.2.2))))) (s4.2.2.1,s4.2.2.2.1,s4.2.2.2.2.1)) (Sum.elim (fun (s5:(List Int)×(List Int)×(List Int))=>(Option.bind (xZ s5.2.2 s4.2.2.2.2.2) fun r7=>some (.inl (r7.1,r7.2.1,s5.1,s5.2.1,s5.2.2,r7.2.2)))) (fun _=>none))))) else some (.inr s4.2.2.1))) 40 (r5.1,r5.2.1,s3.1,s1.2.1,s3.2,r5.2.2)) (fun (y1:(List Int))=>some y1))) fun (v5:(List Int))=>(Option.bind (eqN k1 v5.length) fun g1=>some v5))) (fun _=>none)))) (fun _=>none)))))) else some []))
theorem zaS (c:Zab) (a:ZaF):Le (J2 c a) (vr c a):=by
  unfold J2 vr
  repeat' (first | with_reducible exact Le.refl _ | with_reducible refine Le.bind ?_ (fun _ => ?_) | with_reducible refine Le.cond _ ?_ ?_ | with_reducible refine Le.forR (fun _ _ => ?_) _ _ | with_reducible refine Le.iter (fun _ => ?_) _ _ | with_reducible refine Le.elim (fun _ => ?_) (fun _ => ?_) _)
noncomputable def zaT (c:Zab) (a:ZaF):Option (List Bool):=
  (Option.bind (J2 c a) fun r1=>(Option.bind (mkN 1 (r1.length:Int)) fun k1=>(Option.bind (forR (σ:=(List Bool)) (ρ:=Unit) (r1.length:Int) (fun i1 s1=>(Option.bind (ze r1 (i1:Int)) fun e1=>(Option.bind (zk k1 (i1:Int)) fun k2=>(Option.bind (s1[k2]?) fun e2=>some (.inl (s1.set k2 (e1 == (-1)))))))) (List.replicate k1 false)) (Sum.elim (fun (s1:(List Bool))=>(Option.bind (eqN k1 s1.length) fun g1=>some s1)) (fun _=>none)))))
theorem zhX (c:Zab) (a:ZaF):Le (zaT c a) (WQ c a):=by
  unfold zaT WQ
  repeat' (first | with_reducible exact Le.refl _ | with_reducible exact zaS _ _ | with_reducible refine Le.bind ?_ (fun _ => ?_) | with_reducible refine Le.cond _ ?_ ?_ | with_reducible refine Le.forR (fun _ _ => ?_) _ _ | with_reducible refine Le.iter (fun _ => ?_) _ _ | with_reducible refine Le.elim (fun _ => ?_) (fun _ => ?_) _)
noncomputable def J3 (c:Zab):Option ((List Zac)×Int):=
  (Option.bind (ZL c) fun r1=>(bif (r1.2 == 0) then (Option.bind (yy ({state:=r1.1,own:=false}:Zah)) fun r2=>(Option.bind (α:=(List Zac) ⊕ Unit) (Option.bind (iterN (σ:=(List Zac)×Int×(List (ByteArray×Bool))) (ρ:=(List Zac) ⊕ Unit) (fun s1=>(bif decide (s1.2.1 < (s1.1.length:Int)) then (Option.bind (α:=((List Zac)×(List (ByteArray×Bool))) ⊕ Unit) (Option.bind (ze s1.1 s1.2.1) fun e1=>(bif (e1.day == c.Zat) then some (.inl (s1.1,s1.2.2)) else (Option.bind (iterN (σ:=(List Zac)×Int×(List (ByteArray×Bool))) (ρ:=((List Zac)×(List (ByteArray×Bool))) ⊕ Unit) (fun s2=>(bif decide (s2.2.1 < (c.Zai.length:Int)) then (Option.bind (α:=((List Zac)×(List (ByteArray×Bool))) ⊕ Unit) (Option.bind (ze s2.1 s1.2.1) fun e2=>(Option.bind (yz c e2 s2.2.1) fun r3=>(Option.bind (yy ({state:=r3.1,own:=false}:Zah)) fun r4=>(bif ((zq r4 s2.2.2).getD false) then some (.inl (s2.1,s2.2.2)) else (bif ((s2.1.length:Int) == 1500) then some (.inr ()) else (Option.bind (zO (α:=Zac) 80 s2.1 [r3.1]) fun e3=>some (.inl (e3,(zP r4 true s2.2.2))))))))) (Sum.elim (fun (v1:(List Zac)×(List (ByteArray×Bool)))=>some (.inl (v1.1,(IntKind.i64.wrap (s2.2.1+1)),v1.2))) (fun (y1:Unit)=>some (.inr (.inr ()))))) else some (.inr (.inl (s2.1,s2.2.2))))) 40 (s1.1,(-1),s1.2.2)) (Sum.elim (fun (y2:(List Zac)×(List (ByteArray×Bool)))=>some (.inl (y2.1,y2.2))) (fun (y3:Unit)=>some (.inr ())))))) (Sum.elim (fun (v2:(List Zac)×(List (ByteArray×Bool)))=>some (.inl (v2.1,(IntKind.i64.wrap (s1.2.1+1)),v2.2))) (fun (y4:Unit)=>some (.inr (.inr ()))))) else some (.inr (.inl s1.1)))) 40 ([r1.1],0,(zP r2 true []))) (Sum.elim (fun (y5:(List Zac))=>some (.inl y5)) (fun (y6:Unit)=>some (.inr ())))) (Sum.elim (fun (v3:(List Zac))=>some (v3,0)) (fun (y7:Unit)=>some ([],3))))) else some ([],r1.2)))
theorem zaU (c:Zab):Le (J3 c) (xm c):=by
  unfold J3 xm
  repeat' (first | with_reducible exact Le.refl _ | with_reducible exact XH _ | with_reducible exact zbV _ | with_reducible exact ZM _ _ _ | with_reducible refine Le.bind ?_ (fun _ => ?_) | with_reducible refine Le.cond _ ?_ ?_ | with_reducible refine Le.forR (fun _ _ => ?_) _ _ | with_reducible refine Le.iter (fun _ => ?_) _ _ | with_reducible refine Le.elim (fun _ => ?_) (fun _ => ?_) _)
def Jv (p:Zac):List UInt8:=jV p.day++p.Zag.flatMap jV++p.used.flatMap zV++p.Zal.flatMap Ki
def Jw (p:Zac):Bool:=jU p.day&&(p.Zag.all jU&&p.Zal.all ZK)
theorem zeT {p:Zac} (h:Jw p=true):Jv p=qh p:=by
  simp only [Jw,Bool.and_eq_true,List.all_eq_true] at h
  unfold Jv qh
  rw [jz h.1,xI (f:=jV) (g:=zB) (fun a ha=>jz (h.2.1 a ha)),xI (f:=Ki) (g:=qP) (fun a ha=>by
    have:=h.2.2 a ha
    simp only [ZK,Bool.and_eq_true] at this
    show jV a.Zan++jV a.left++jV a.got++jV a.Zau++zV a.ZaB=zB a.Zan++zB a.left++zB a.got++zB a.Zau++zV a.ZaB
    rw [jz this.1,jz this.2.1,jz this.2.2.1,jz this.2.2.2])]
def J4 (p:Zac):Option ByteArray:=bif Jw p&&decide ((Jv p).length≤1000000000) then some ⟨(Jv p).toArray⟩ else none
theorem zgv (p:Zac):Le (J4 p) (wx p):=fun r h=>by
  unfold J4 at h
  cases hq:(Jw p&&decide ((Jv p).length≤1000000000)) with
  | false=>rw [hq] at h;cases h
  | true=>
    rw [hq] at h
    simp only [Bool.and_eq_true,decide_eq_true_eq] at hq
    have e:=zeT hq.1
    unfold wx
    rw [if_pos,←e]
    · exact h
    · have h1:=hq.1
      simp only [Jw,Bool.and_eq_true,List.all_eq_true] at h1
      simp only [zan,Bool.and_eq_true,decide_eq_true_eq,List.all_eq_true]
      refine ⟨⟨⟨ji h1.1,fun x hx=>ji (h1.2.1 x hx)⟩,fun m hm => ?_⟩,by rw [←e];exact hq.2⟩
      have:=h1.2.2 m hm
      simp only [ZK,Bool.and_eq_true] at this
      exact ⟨⟨⟨ji this.1,ji this.2.1⟩,ji this.2.2.1⟩,ji this.2.2.2⟩
noncomputable def zaV (p1:List Int):Option ((List Int)):=
  (Option.bind (iterN (σ:=Int×Int×(List Int)) (ρ:=(List Int)) (fun s1=>(bif decide (s1.1 < s1.2.1) then (Option.bind (zk p1.length s1.2.1) fun k1=>(Option.bind (s1.2.2[k1]?) fun e1=>(Option.bind (zk p1.length s1.1) fun k2=>(Option.bind (s1.2.2[k2]?) fun e2=>(Option.bind ((s1.2.2.set k2 e1)[k1]?) fun e3=>some (.inl ((IntKind.i64.wrap (s1.1+1)),(IntKind.i64.wrap (s1.2.1 - 1)),((s1.2.2.set k2 e1).set k1 e2)))))))) else some (.inr s1.2.2))) 40 (0,(IntKind.i64.wrap ((p1.length:Int) - 1)),p1)) (fun (y1:(List Int))=>some y1))
theorem zhY (p1:List Int):Le (zaV p1) (ko p1):=by
  unfold zaV ko
  repeat' (first | with_reducible exact Le.refl _ | with_reducible refine Le.bind ?_ (fun _ => ?_) | with_reducible refine Le.cond _ ?_ ?_ | with_reducible refine Le.forR (fun _ _ => ?_) _ _ | with_reducible refine Le.iter (fun _ => ?_) _ _ | with_reducible refine Le.elim (fun _ => ?_) (fun _ => ?_) _)
noncomputable def zc5 (came:Option (List (Int×Zax))) (n:Int):Option (List Int):=
  Option.bind (iterN (σ:=List Int×Int) (ρ:=List Int) (Qi came) 60 ([],n)) fun l=>Option.bind (zaV l) fun r=>Option.bind (eqN l.length r.length) fun _=>some r
theorem zjI (came:Option (List (Int×Zax))) (n:Int):Le (zc5 came n) (Qj came n):=by
  unfold zc5 Qj
  exact Le.bind (Le.iter (fun _=>Le.refl _) _ _) fun _=>Le.bind (zhY _) fun _=>Le.refl _
noncomputable def zaW (a:ZaF) (ranks:List Int):Option (List Int):=
  (Option.bind (Option.bind (iterN (σ:=(List Int)×Int) (ρ:=(List Int)) (fun s1=>(Option.bind (ze ranks s1.2) fun e1=>(bif decide (0 < e1) then (Option.bind (ze a.Zaw s1.2) fun e2=>(bif e2.own then (Option.bind (ze a.moves s1.2) fun e3=>(Option.bind (ze e3 0) fun e4=>some (.inl (s1.1,e4.to)))) else (Option.bind (ze a.moves s1.2) fun e5=>(Option.bind (ZD e5 ranks s1.2) fun r1=>(Option.bind (ze a.moves s1.2) fun e6=>(Option.bind (ze e6 r1) fun e7=>(Option.bind (zO (α:=Int) 8 s1.1 [e7.step]) fun e8=>some (.inl (e8,e7.to))))))))) else some (.inr s1.1)))) 40 ([],0)) (fun (y1:(List Int))=>some y1)) fun (v1:(List Int))=>some v1)
theorem zhZ (a:ZaF) (ranks:List Int):Le (zaW a ranks) (ZE a ranks):=by
  unfold zaW ZE
  repeat' (first | with_reducible exact Le.refl _ | with_reducible refine Le.bind ?_ (fun _ => ?_) | with_reducible refine Le.cond _ ?_ ?_ | with_reducible refine Le.forR (fun _ _ => ?_) _ _ | with_reducible refine Le.iter (fun _ => ?_) _ _ | with_reducible refine Le.elim (fun _ => ?_) (fun _ => ?_) _)
noncomputable def VP (c:Zab) (states:List Zac):Option (Option (List (Int×Zax))):=
  (Option.bind (forR (σ:=(List (ByteArray×Int))) (ρ:=Unit) (states.length:Int) (fun i1 s1=>(Option.bind (ze states (i1:Int)) fun e1=>(Option.bind (J4 e1) fun r1=>some (.inl (zP r1 (i1:Int) s1))))) []) (Sum.elim (fun (s1:(List (ByteArray×Int)))=>(Option.bind (forR (σ:=(List (Int×Zax))) (ρ:=Unit) (states.length:Int) (fun i2 s2=>(Option.bind (Option.bind (ze states (i2:Int)) fun e2=>(bif (e2.day == c.Zat) then some s2 else (Option.bind (iterN (σ:=Int×(List (Int×Zax))) (ρ:=(List (Int×Zax))) (fun s3=>(bif decide (s3.1 < (c.Zai.length:Int)) then (Option.bind (Option.bind (yz c e2 s3.1) fun r2=>(Option.bind (J4 r2.1) fun r3=>(Option.bind (bif ((zq ((zq r3 s1).getD 0) s3.2).isSome) then some false else some (!(((zq r3 s1).getD 0) == 0))) fun v1=>(bif v1 then some (zP ((zq r3 s1).getD 0) ({from_:=(i2:Int),step:=s3.1}:Zax) s3.2) else some s3.2)))) fun (v2:(List (Int×Zax)))=>some (.inl ((IntKind.i64.wrap (s3.1+1)),v2))) else some (.inr s3.2))) 40 ((-1),s2)) (fun (y1:(List (Int×Zax)))=>some y1)))) fun (v3:(List (Int×Zax)))=>some (.inl v3))) []) (Sum.elim (fun (s2:(List (Int×Zax)))=>some (some s2)) (fun _=>none)))) (fun _=>none)))
theorem zgw (c:Zab) (states:List Zac):Le (VP c states) (yP c states):=by
  unfold VP yP
  repeat' (first | with_reducible exact Le.refl _ | with_reducible exact zgv _ | with_reducible exact ZM _ _ _ | with_reducible refine Le.bind ?_ (fun _ => ?_) | with_reducible refine Le.cond _ ?_ ?_ | with_reducible refine Le.forR (fun _ _ => ?_) _ _ | with_reducible refine Le.iter (fun _ => ?_) _ _ | with_reducible refine Le.elim (fun _ => ?_) (fun _ => ?_) _)
noncomputable def Jx (c:Zab) (states:List Zac):Option (List Zaj):=
  (Option.bind (forR (σ:=(List Zaj)×(Option (List (Int×Zax)))) (ρ:=Unit) (c.Zae.length:Int) (fun i1 s1=>(Option.bind (forR (σ:=(List Zaj)×(Option (List (Int×Zax)))) (ρ:=Unit) (c.Zae.length:Int) (fun i2 s2=>(Option.bind (Option.bind (xE c (i1:Int) (i2:Int)) fun r1=>(bif r1 then (Option.bind (forR (σ:=(List Zaj)×(Option (List (Int×Zax)))) (ρ:=(List Zaj)×(Option (List (Int×Zax)))) (states.length:Int) (fun i3 s3=>(Option.bind (ze states (i3:Int)) fun e1=>(Option.bind (vv c e1 (i1:Int) (i2:Int)) fun r2=>(bif r2 then (Option.bind (bif s3.2.isSome then some s3.2 else (Option.bind (VP c states) fun r3=>some r3)) fun (v1:(Option (List (Int×Zax))))=>(Option.bind (zc5 v1 (i3:Int)) fun r4=>(Option.bind (ja 4 (-1) (i1:Int) (i2:Int) r4) fun r5=>(Option.bind (zO (α:=Zaj) 56 s3.1 [r5]) fun e2=>some (.inr (e2,v1)))))) else some (.inl (s3.1,s3.2)))))) (s2.1,s2.2)) (Sum.elim (fun (s3:(List Zaj)×(Option (List (Int×Zax))))=>some (s3.1,s3.2)) (fun (y1:(List Zaj)×(Option (List (Int×Zax))))=>some (y1.1,y1.2)))) else some (s2.1,s2.2))) fun (v2:(List Zaj)×(Option (List (Int×Zax))))=>some (.inl (v2.1,v2.2)))) (s1.1,s1.2)) (Sum.elim (fun (s2:(List Zaj)×(Option (List (Int×Zax))))=>some (.inl (s2.1,s2.2))) (fun _=>none)))) ([],none)) (Sum.elim (fun (s1:(List Zaj)×(Option (List (Int×Zax))))=>some s1.1) (fun _=>none)))
theorem zc6 (c:Zab) (states:List Zac):Le (Jx c states) (wz c states):=by
  unfold Jx wz
  repeat' (first | with_reducible exact Le.refl _ | with_reducible exact zgw _ _ | with_reducible exact zjI _ _ | with_reducible refine Le.bind ?_ (fun _ => ?_) | with_reducible refine Le.cond _ ?_ ?_ | with_reducible refine Le.forR (fun _ _ => ?_) _ _ | with_reducible refine Le.iter (fun _ => ?_) _ _ | with_reducible refine Le.elim (fun _ => ?_) (fun _ => ?_) _)
noncomputable def zeU (c:Zab):Option ((List Zaj)×Int):=
  (Option.bind (J3 c) fun r1=>(bif (r1.2 == 0) then (Option.bind (forR (σ:=(List Zaj)) (ρ:=Int) c.Zao (fun i1 s1=>(Option.bind (α:=(List Zaj) ⊕ Int) (Option.bind (J1 c (i1:Int)) fun r2=>(bif (r2.2 == 0) then (Option.bind (J2 c r2.1) fun r3=>(Option.bind (ze r3 0) fun e1=>(bif decide (0≤e1) then (Option.bind (zaW r2.1 r3) fun r4=>(Option.bind (ja 1 (i1:Int) (-1) (-1) r4) fun r5=>(Option.bind (zO (α:=Zaj) 56 s1 [r5]) fun e2=>some (.inl e2)))) else some (.inl s1)))) else some (.inr r2.2))) (Sum.elim (fun (v1:(List Zaj))=>some (.inl v1)) (fun (y1:Int)=>some (.inr y1))))) []) (Sum.elim (fun (s1:(List Zaj))=>(Option.bind (forR (σ:=(List Zaj)×(List Zaj)) (ρ:=Unit) (c.Zae.length:Int) (fun i2 s2=>(Option.bind (Jf (i2:Int) r1.1 s2.1 c s2.2) fun r6=>some (.inl (r6.1,r6.2)))) (s1,[])) (Sum.elim (fun (s2:(List Zaj)×(List Zaj))=>(Option.bind (zO (α:=Zaj) 56 s2.1 s2.2) fun e3=>(Option.bind (Jx c r1.1) fun r7=>(Option.bind (zO (α:=Zaj) 56 e3 r7) fun e4=>some (e4,0))))) (fun _=>none)))) (fun (y2:Int)=>some ([],y2)))) else some ([],r1.2)))
theorem VQ (c:Zab):Le (zeU c) (jP c):=by
  unfold zeU jP
  repeat' (first | with_reducible exact Le.refl _ | with_reducible exact zaU _ | with_reducible exact zaR _ _ | with_reducible exact zaS _ _ | with_reducible exact zhZ _ _ | with_reducible exact zc6 _ _ | with_reducible refine Le.bind ?_ (fun _ => ?_) | with_reducible refine Le.cond _ ?_ ?_ | with_reducible refine Le.forR (fun _ _ => ?_) _ _ | with_reducible refine Le.iter (fun _ => ?_) _ _ | with_reducible refine Le.elim (fun _ => ?_) (fun _ => ?_) _)
noncomputable def XI (c:Zab) (s:Zac) (f:Zaj):Option (Bool):=
  (Option.bind (forR (σ:=Int×(List Int)×(List Bool)×(List zw)) (ρ:=Unit) (f.Zaz.length:Int) (fun i1 s1=>(Option.bind (ze f.Zaz (i1:Int)) fun e1=>(Option.bind (bif (e1 == (-1)) then some false else (Option.bind (zaA c ({day:=s1.1,Zag:=s1.2.1,used:=s1.2.2.1,Zal:=s1.2.2.2}:Zac) e1) fun r1=>some (r1 == f.Zaa))) fun v1=>(bif v1 then some (.inr ()) else (Option.bind (yz c ({day:=s1.1,Zag:=s1.2.1,used:=s1.2.2.1,Zal:=s1.2.2.2}:Zac) e1) fun r2=>(bif (r2.2 == 0) then (Option.bind (bif ((i1:Int) == (IntKind.i64.wrap ((f.Zaz.length:Int) - 1))) then (Option.bind (kp c ({day:=s1.1,Zag:=s1.2.1,used:=s1.2.2.1,Zal:=s1.2.2.2}:Zac) f.Zaa) fun r3=>some r3) else some false) fun v2=>(bif v2 then some (.inr ()) else some (.inl (r2.1.day,r2.1.Zag,r2.1.used,r2.1.Zal)))) else some (.inr ()))))))) (s.day,s.Zag,s.used,s.Zal)) (Sum.elim (fun (s1:Int×(List Int)×(List Bool)×(List zw))=>(Option.bind (kp c ({day:=s1.1,Zag:=s1.2.1,used:=s1.2.2.1,Zal:=s1.2.2.2}:Zac) f.Zaa) fun r4=>some r4)) (fun (y1:Unit)=>some false)))
theorem zeV (c:Zab) (s:Zac) (f:Zaj):Le (XI c s f) (Qk c s f):=by
  unfold XI Qk
  repeat' (first | with_reducible exact Le.refl _ | with_reducible exact ZM _ _ _ | with_reducible refine Le.bind ?_ (fun _ => ?_) | with_reducible refine Le.cond _ ?_ ?_ | with_reducible refine Le.forR (fun _ _ => ?_) _ _ | with_reducible refine Le.iter (fun _ => ?_) _ _ | with_reducible refine Le.elim (fun _ => ?_) (fun _ => ?_) _)
noncomputable def XJ (c:Zab) (Zaa:Int):Option (Bool):=
  (Option.bind (J1 c Zaa) fun r1=>(Option.bind (bif (r1.2 == 0) then (Option.bind (zaT c r1.1) fun r2=>(Option.bind (ze r2 0) fun e1=>some (!e1))) else some false) fun v1=>some v1))
theorem zeW (c:Zab) (Zaa:Int):Le (XJ c Zaa) (Ql c Zaa):=by
  unfold XJ Ql
  repeat' (first | with_reducible exact Le.refl _ | with_reducible exact zaR _ _ | with_reducible exact zhX _ _ | with_reducible refine Le.bind ?_ (fun _ => ?_) | with_reducible refine Le.cond _ ?_ ?_ | with_reducible refine Le.forR (fun _ _ => ?_) _ _ | with_reducible refine Le.iter (fun _ => ?_) _ _ | with_reducible refine Le.elim (fun _ => ?_) (fun _ => ?_) _)
noncomputable def VR (c:Zab) (f:Zaj):Option (Bool):=
  (Option.bind (J3 c) fun r1=>(bif (r1.2 == 0) then (bif (f.kind == 2) then (Option.bind (yr r1.1 f.clause) fun r2=>some r2) else (Option.bind (Option.bind (yr r1.1 f.clause) fun r3=>(bif r3 then some false else (Option.bind (vt c r1.1 f.clause) fun r4=>some r4))) fun v1=>some v1)) else some false))
theorem zgx (c:Zab) (f:Zaj):Le (VR c f) (JS c f):=by
  unfold VR JS
  repeat' (first | with_reducible exact Le.refl _ | with_reducible exact zaU _ | with_reducible refine Le.bind ?_ (fun _ => ?_) | with_reducible refine Le.cond _ ?_ ?_ | with_reducible refine Le.forR (fun _ _ => ?_) _ _ | with_reducible refine Le.iter (fun _ => ?_) _ _ | with_reducible refine Le.elim (fun _ => ?_) (fun _ => ?_) _)
noncomputable def zbW (c:Zab) (f:Zaj):Option (Bool):=
  (Option.bind (ZL c) fun r1=>(bif (r1.2 == 0) then (Option.bind (bif decide (0≤f.clause) then (bif decide (f.clause < (c.Zae.length:Int)) then some (f.Zaa == (-1)) else some false) else some false) fun v1=>(bif (f.kind == 1) then (Option.bind (bif decide (0≤f.Zaa) then (bif decide (f.Zaa < c.Zao) then (bif (f.clause == (-1)) then (bif (f.other == (-1)) then (Option.bind (XI c r1.1 f) fun r2=>(bif r2 then (Option.bind (XJ c f.Zaa) fun r3=>some r3) else some false)) else some false) else some false) else some false) else some false) fun v2=>some v2) else (Option.bind (bif (f.kind == 2) then some (f.kind == 2) else some (f.kind == 3)) fun (v3:Bool)=>(bif v3 then (Option.bind (bif v1 then (bif (f.other == (-1)) then (bif ((f.Zaz.length:Int) == 0) then (Option.bind (VR c f) fun r4=>some r4) else some false) else some false) else some false) fun v4=>some v4) else (bif (f.kind == 4) then (Option.bind (bif v1 then (bif decide (f.other < 0) then some true else (bif decide ((c.Zae.length:Int)≤f.other) then some true else (Option.bind (xE c f.clause f.other) fun r5=>some (!r5)))) else some true) fun v5=>(bif v5 then some false else (Option.bind (forR (σ:=Int×(List Int)×(List Bool)×(List zw)) (ρ:=Unit) (f.Zaz.length:Int) (fun i1 s1=>(Option.bind (ze f.Zaz (i1:Int)) fun e1=>(Option.bind (yz c ({day:=s1.1,Zag:=s1.2.1,used:=s1.2.2.1,Zal:=s1.2.2.2}:Zac) e1) fun r6=>(bif (r6.2 == 0) then some (.inl (r6.1.day,r6.1.Zag,r6.1.used,r6.1.Zal)) else some (.inr ()))))) (r1.1.day,r1.1.Zag,r1.1.used,r1.1.Zal)) (Sum.elim (fun (s1:Int×(List Int)×(List Bool)×(List zw))=>(Option.bind (vv c ({day:=s1.1,Zag:=s1.2.1,used:=s1.2.2.1,Zal:=s1.2.2.2}:Zac) f.clause f.other) fun r7=>some r7)) (fun (y1:Unit)=>some false))))) else some false))))) else some false))
theorem vF (c:Zab) (f:Zaj):Le (zbW c f) (qG c f):=by
  unfold zbW qG
  repeat' (first | with_reducible exact Le.refl _ | with_reducible exact XH _ | with_reducible exact zeV _ _ _ | with_reducible exact zeW _ _ | with_reducible exact zgx _ _ | with_reducible exact ZM _ _ _ | with_reducible refine Le.bind ?_ (fun _ => ?_) | with_reducible refine Le.cond _ ?_ ?_ | with_reducible refine Le.forR (fun _ _ => ?_) _ _ | with_reducible refine Le.iter (fun _ => ?_) _ _ | with_reducible refine Le.elim (fun _ => ?_) (fun _ => ?_) _)
end Go.Proofs.YtlpmnmbebkdocaaGreatDoor
