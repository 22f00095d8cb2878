/-
  region.Ranks: all of it.
  A clause that has ended stays as it is; a breach stays a breach.
  RegionBreach: a breach is never left.
  What can be forced from a position, told without an arena.
  region.Safe and strategy's functions, told by positions.
  strategy.Advise: what it returns.
  Traces; what one step does when a party follows the advice.
  strategy.Follow: what it returns.
  trap.edges and trap.way: the shortest way to a state.
  trap's questions about clauses: dead, unused, opposed, clash.
  trap.clashes: what it returns.
  RegionForced: where there is a rank, the others can force a breach in as many moves.
  trap.play: the steps by which the others force a party into breach.
  trap.Find: what it returns.
  Functions of the program as the kernel reckons them: with fuel, and texts of small numbers. Printed by mkheads.py.
  The fixed example of the laws of layer 21: 'head' returns true. Printed by mkheads.py.
  One of the calls of the fixed example of the laws of layer 21. Printed by mkheads.py.
-/
import Derived.Test.YtlpmnmbebkdocaaGreatDoorTC12
namespace Go.Proofs.YtlpmnmbebkdocaaGreatDoor
open Go.RowKit
set_option linter.unusedSimpArgs false
set_option linter.unusedVariables false
set_option maxRecDepth 100000
section
section
variable {c:Zab} {Zaa:Int} {p:Zah} {a:ZaF}
def xw (G:Gm) (i:Nat):Bool:=G.own i&&(!(G.lost i)&&(G.succ i).isEmpty)
def r2 (G:Gm) (i j:Nat):Int:=if G.lost j=true then 0 else if xw G j=true∧j < i then 1 else -1
def K2 (G:Gm) (i:Nat):List Nat:=(List.range G.n).filter G.lost++(List.range i).filter (xw G)
structure L3 (G:Gm) (i:Nat) (s:List Int×List Int):Prop where
  lr:s.1.length=G.n
  r:∀ j,j < G.n→at_ s.1 j=r2 G i j
  k:s.2=cst (K2 G i)
theorem zjt (G:Gm) (i:Nat):(K2 G i).length≤G.n+i:=by
  unfold K2
  rw [List.length_append]
  have h1:=List.length_filter_le G.lost (List.range G.n)
  have h2:=List.length_filter_le (xw G) (List.range i)
  rw [List.length_range] at h1 h2
  omega
theorem zeG {G:Gm} {r o:Nat→Int} (hr:∀ j,j < G.n→r j=r2 G G.n j) (ho:∀ j,j < G.n→o j=((G.succ j).length:Int)):BInv G r o [] (K2 G G.n)∧Bnd G r (K2 G G.n).length:=by
  have tl:∀ j,xw G j=true→G.own j=true∧G.lost j=false∧G.succ j=[]:=fun j h=>by
    simpa [xw,Bool.and_eq_true,List.isEmpty_iff] using h
  have rl:∀ j,j < G.n→G.lost j=true→r j=0:=fun j hj h=>by rw [hr j hj];unfold r2;rw [if_pos h]
  have rt:∀ j,j < G.n→xw G j=true→r j=1:=fun j hj h=>by
    rw [hr j hj];unfold r2;rw [if_neg (by rw [(tl j h).2.1];simp),if_pos ⟨h,hj⟩]
  have rn:∀ j,j < G.n→G.lost j=false→xw G j=false→r j = -1:=fun j hj h h2=>by
    rw [hr j hj];unfold r2;rw [if_neg (by rw [h];simp),if_neg (by rw [h2];simp)]
  have three:∀ j,j < G.n→(G.lost j=true∧r j=0)∨(xw G j=true∧G.lost j=false∧r j=1)∨(G.lost j=false∧xw G j=false∧r j = -1):=fun j hj=>by
    cases h:G.lost j with
    | true=>exact .inl ⟨rfl,rl j hj h⟩
    | false=>cases h2:xw G j with
      | true=>exact .inr (.inl ⟨rfl,rfl,rt j hj h2⟩)
      | false=>exact .inr (.inr ⟨rfl,rfl,rn j hj h h2⟩)
  have hm:∀ j,j∈K2 G G.n↔j < G.n∧(G.lost j=true∨xw G j=true):=fun j=>by
    unfold K2
    rw [List.mem_append,List.mem_filter,List.mem_filter,List.mem_range]
    constructor
    · rintro (⟨h1,h2⟩ | ⟨h1,h2⟩)
      · exact ⟨h1,.inl h2⟩
      · exact ⟨h1,.inr h2⟩
    · rintro ⟨h1,h2 | h2⟩
      · exact .inl ⟨h1,h2⟩
      · exact .inr ⟨h1,h2⟩
  have hle:∀ x∈K2 G G.n,r x≤1∧0≤r x:=fun x hx=>by
    obtain ⟨h1,h2⟩:=(hm x).1 hx
    rcases three x h1 with ⟨_,h⟩ | ⟨_,_,h⟩ | ⟨h3,h4,h⟩
    · omega
    · omega
    · rw [h3,h4] at h2;simp at h2
  refine ⟨⟨⟨?_,fun x hx=>((hm x).1 hx).1,fun i hi => ?_,fun i hi => ?_,?_,fun i hi => ?_,fun i hi => ?_,fun i hi h1 h2 h3 => ?_,fun i hi h1 h2 h3 => ?_,fun i hi h1 h2 h3 => ?_,fun i hi h1 h2 h3=>⟨fun t ht h=>(by cases h),rfl⟩⟩,fun q Q' hq x hx => ?_⟩,fun i hi => ?_⟩
  · rw [List.nil_append]
    unfold K2
    refine List.nodup_append.2 ⟨List.nodup_range.sublist List.filter_sublist,List.nodup_range.sublist List.filter_sublist,fun x hx y hy e => ?_⟩
    subst e
    have h1:=(List.mem_filter.1 hx).2
    have h2:=(tl x (List.mem_filter.1 hy).2).2.1
    rw [h1] at h2;cases h2
  · rw [List.nil_append,hm i]
    rcases three i hi with ⟨h1,h⟩ | ⟨h1,_,h⟩ | ⟨h3,h4,h⟩
    · rw [h];simp [hi,h1]
    · rw [h];simp [hi,h1]
    · rw [h];simp [h3,h4]
  · rcases three i hi with ⟨_,h⟩ | ⟨_,_,h⟩ | ⟨_,_,h⟩<;>omega
  · rw [List.nil_append]
    unfold K2
    refine List.pairwise_append.2 ⟨?_,?_,fun x hx y hy => ?_⟩
    · refine List.pairwise_of_forall_mem_list fun x hx y hy => ?_
      have h1:=(List.mem_filter.1 hx);have h2:=(List.mem_filter.1 hy)
      rw [rl x (List.mem_range.1 h1.1) h1.2,rl y (List.mem_range.1 h2.1) h2.2];omega
    · refine List.pairwise_of_forall_mem_list fun x hx y hy => ?_
      have h1:=(List.mem_filter.1 hx);have h2:=(List.mem_filter.1 hy)
      rw [rt x (List.mem_range.1 h1.1) h1.2,rt y (List.mem_range.1 h2.1) h2.2];omega
    · have h1:=(List.mem_filter.1 hx);have h2:=(List.mem_filter.1 hy)
      rw [rl x (List.mem_range.1 h1.1) h1.2,rt y (List.mem_range.1 h2.1) h2.2];omega
  · rw [ho i hi]
    have:(G.succ i).countP (vr [])=(G.succ i).length:=List.countP_eq_length.2 fun x _=>by simp [vr]
    rw [this];simp
  · rcases three i hi with ⟨h1,h⟩ | ⟨_,h1,h⟩ | ⟨h1,_,h⟩<;>rw [h,h1]<;>simp
  · rcases three i hi with ⟨h4,h⟩ | ⟨h4,_,h⟩ | ⟨_,_,h⟩
    · rw [h2] at h4;cases h4
    · have h5:=(tl i h4).2.2
      rw [ho i hi,h5,h]
      exact ⟨rfl,fun t ht=>(by cases ht),.inl ⟨rfl,rfl⟩⟩
    · exact absurd h h3
  · rw [ho i hi]
    intro h5
    have h6:G.succ i=[]:=List.eq_nil_of_length_eq_zero (by omega)
    have h7:=rt i hi (by simp [xw,h1,h2,h6])
    omega
  · rcases three i hi with ⟨h4,h⟩ | ⟨h4,_,h⟩ | ⟨_,_,h⟩
    · rw [h2] at h4;cases h4
    · have h5:=(tl i h4).1;rw [h1] at h5;cases h5
    · exact absurd h h3
  · rw [List.nil_append] at hx
    have h1:=(hle x hx).1
    have h2:=(hle q (by rw [hq];simp)).2
    omega
  · rcases three i hi with ⟨_,h⟩ | ⟨h1,_,h⟩ | ⟨_,_,h⟩
    · omega
    · have:0 < (K2 G G.n).length:=List.length_pos_of_mem ((hm i).2 ⟨hi,.inr h1⟩)
      omega
    · omega
structure QI (G:Gm) (bef:List (List Int)) (s:Int×Bool×List Int×List Int×List Int×Int):Prop where
  lr:s.2.2.1.length=G.n
  lo:s.2.2.2.1.length=G.n
  inv:∃ P Q,BInv G (at_ s.2.2.1) (at_ s.2.2.2.1) P Q∧Bnd G (at_ s.2.2.1) (P++Q).length∧s.2.2.2.2.1=cst (P++Q)∧((s.2.1=false∧Q=[]∧s.2.2.2.2.2=(P.length:Int))∨(s.2.1=true∧∃ u Q',Q=u::Q'∧s.1=(u:Int)∧s.2.2.2.2.2=(P.length:Int)+1))
theorem W0 {l:List Nat} {k:Nat} (hk:k < l.length) (x:Nat):(l.take (k+1)).count x=upd (fun y=>(l.take k).count y) l[k] ((l.take k).count l[k]+1) x:=by
  rw [List.take_succ_eq_append_getElem hk,List.count_append]
  unfold upd
  by_cases e:x=l[k]
  · rw [if_pos e,e];simp
  · rw [if_neg e,List.count_cons_of_ne (fun h=>e h.symm)];simp
theorem zeH {l:List Nat} {k:Nat} (hk:k < l.length):(fun y=>(l.take (k+1)).count y)=upd (fun y=>(l.take k).count y) l[k] ((l.take k).count l[k]+1):=funext fun x=>W0 hk x
theorem zeI {G:Gm} {bef:List (List Int)} {P Q:List Nat} {r o:List Int} (hn:G.n≤1500) (hr:r.length=G.n) (ho:o.length=G.n) (h:BInv G (at_ r) (at_ o) P Q) (hb:Bnd G (at_ r) (P++Q).length) :
    ∃ z:Int×Bool×Int,x5 (cst (P++Q)) (P.length:Int)=some z∧QI G bef (z.1,z.2.1,r,o,cst (P++Q),z.2.2)∧((z.2.1=false∧z.2.2=(P.length:Int))∨(z.2.1=true∧z.2.2=(P.length:Int)+1))∧P.length≤G.n:=by
  have hK:(P++Q).length≤G.n:=by
    have:=Ql (L2:=List.range G.n) h.core.nd (fun y hy=>List.mem_range.2 (h.core.lt y hy))
    rwa [List.length_range] at this
  refine ⟨_,zhJ (by omega) (by simp),?_⟩
  cases Q with
  | nil=>
    rw [List.append_nil,List.getElem?_eq_none (Nat.le_refl _)]
    exact ⟨⟨hr,ho,P,[],h,hb,by rw [List.append_nil],.inl ⟨rfl,rfl,rfl⟩⟩,.inl ⟨rfl,rfl⟩,by simpa using hK⟩
  | cons u Q'=>
    rw [List.getElem?_append_right (Nat.le_refl _),Nat.sub_self]
    exact ⟨⟨hr,ho,P,u::Q',h,hb,rfl,.inr ⟨rfl,u,Q',rfl,rfl,rfl⟩⟩,.inr ⟨rfl,rfl⟩,by rw [List.length_append] at hK;omega⟩
theorem zeJ (hc:c.Ok) (A:ArOk c Zaa p a):Ret (vC c a) (fun r=>r.length=a.Zaw.length∧yq (gm c a) (at_ r)∧∀ i,i < a.Zaw.length→at_ r i≤1500):=by
  have hn:a.Zaw.length≤1500:=A.F.inv.len
  have hgn:(gm c a).n=a.Zaw.length:=rfl
  unfold vC
  refine Ret.bindE (zaE hc A) ?_
  refine Ret.ite (fun _ => ?_) (fun h=>by cases h)
  refine Ret.bindE (VE hn (by omega)) ?_
  refine Ret.bindE (VE hn (by omega)) ?_
  refine Ret.bindE (VE hn (by omega)) ?_
  refine Ret.bind (P:=fun o:(List Int×List Int×List (List Int)×List Int) ⊕ Unit=>∃ s,o=.inl s∧L2 (gm c a) a.Zaw.length s) (Ret.forL (L2 (gm c a)) (by omega) ?_ (fun i s hi hs => ?_) (fun s h=>⟨s,rfl,h⟩)) ?_
  · refine ⟨by simp [hgn],by simp [hgn],⟨by simp [hgn],fun t ht=>⟨[],?_,by simp,fun x => ?_⟩⟩,fun j hj=>by omega,fun j hj=>by omega,rfl⟩
    · rw [List.getElem?_replicate,if_pos (by rw [←hgn];exact ht)];rfl
    · simp
  · obtain ⟨R,O,B,K⟩:=s
    obtain ⟨hlr,hlo,hbef,hr,ho,hk⟩:=hs
    simp only at hlr hlo hbef hr ho hk ⊢
    obtain ⟨T,hT,hM⟩:=A.mv hi
    have hTl:=A.len hc hi hT
    have hsucc:=A.succ hi hT
    have hlostE:(gm c a).lost i=jR c a.Zaw[i].state a.Zaa:=by
      show (match a.Zaw[i]? with | some q=>jR c q.state a.Zaa | none=>false)=_
      rw [List.getElem?_eq_getElem hi]
    refine Ret.bind (P:=fun v=>L2 (gm c a) (i+1) v) ?_ (fun v hv=>Ret.some hv)
    refine Ret.bindE (zl (List.getElem?_eq_getElem hi)) ?_
    refine Ret.bindE (zl hT) ?_
    refine Ret.bindE (zU hi) ?_
    refine Ret.bindE (xS (by omega)) ?_
    refine Ret.bindE (zU hi) ?_
    refine Ret.bindE (xS (by omega)) ?_
    refine Ret.bindE (zl hT) ?_
    refine Ret.bind (P:=fun o:List (List Int) ⊕ Unit=>∃ b,o=.inl b∧L1 (gm c a) i T.length b) (Ret.forL (fun k b=>L1 (gm c a) i k b) (by omega) hbef (fun k b hk2 hb => ?_) (fun b h=>⟨b,rfl,h⟩)) ?_
    · have hto:=A.to hi hT (List.getElem_mem hk2)
      refine Ret.bindE (zl (List.getElem?_eq_getElem hk2)) ?_
      have h1:(gm c a).succ i=T.map fun m=>m.to.toNat:=hsucc
      have h2:=hb.step (G:=gm c a) hn hi (by omega) (to:=T[k].to.toNat) (by rw [h1,List.getElem?_map,List.getElem?_eq_getElem hk2];rfl) (by rw [hgn];omega)
      rw [Int.toNat_of_nonneg hto.1] at h2
      exact Ret.bind h2 (fun v hv=>Ret.some hv)
    · rintro _ ⟨b,rfl,hb⟩
      simp only [Sum.elim_inl]
      have hb':=hb.next (by rw [hsucc,List.length_map]) hTl
      have hR1:at_ (R.set i (-1))=upd (at_ R) i (-1):=kA (by omega) _
      have hO1:at_ (O.set i (T.length:Int))=upd (at_ O) i (T.length:Int):=kA (by omega) _
      have hoo:∀ j,j < i+1→upd (at_ O) i (T.length:Int) j=(((gm c a).succ j).length:Int):=fun j hj=>by
        unfold upd
        by_cases e:j=i
        · rw [if_pos e,e,hsucc,List.length_map]
        · rw [if_neg e];exact ho j (by omega)
      have hrange:(List.range (i+1)).filter (gm c a).lost=(List.range i).filter (gm c a).lost++(bif (gm c a).lost i then [i] else []):=by
        rw [List.range_succ,List.filter_append]
        cases h:(gm c a).lost i<;>simp [h]
      refine Ret.bindE (zjs hc (A.F.inv.vs _ (List.getElem_mem hi)) a.Zaa) ?_
      refine Ret.ite (fun hl => ?_) (fun hl => ?_)
      · rw [←hlostE] at hl
        refine Ret.bindE (zU hi) ?_
        refine Ret.bindE (List.getElem?_set_self (by omega)) ?_
        have hK:K.length≤1500:=by
          rw [hk,yU]
          have:=List.length_filter_le (gm c a).lost (List.range i)
          rw [List.length_range] at this;omega
        refine Ret.bindE (zaF 0 (by omega)) ?_
        refine Ret.some ⟨by simp [hlr],by simp [hlo],hb',fun j hj => ?_,fun j hj => ?_,?_⟩
        · simp only
          rw [List.set_set,kA (by omega)]
          unfold upd
          by_cases e:j=i
          · rw [if_pos e,e,if_pos hl]
          · rw [if_neg e];exact hr j (by omega)
        · simp only;rw [hO1];exact hoo j hj
        · simp only;rw [hk,hrange,hl,cond_true,JW];rfl
      · rw [←hlostE] at hl
        refine Ret.some ⟨by simp [hlr],by simp [hlo],hb',fun j hj => ?_,fun j hj => ?_,?_⟩
        · simp only
          rw [hR1]
          unfold upd
          by_cases e:j=i
          · rw [if_pos e,e,if_neg (by rw [hl];simp)]
          · rw [if_neg e];exact hr j (by omega)
        · simp only;rw [hO1];exact hoo j hj
        · simp only;rw [hk,hrange,hl,ZaH,List.append_nil]
  · rintro _ ⟨⟨R,O,B,K⟩,rfl,hlr,hlo,hbef,hr,ho,hk⟩
    simp only [Sum.elim_inl] at hlr hlo hbef hr ho hk ⊢
    refine Ret.bind (P:=fun o:(List Int×List Int) ⊕ Unit=>∃ s,o=.inl s∧L3 (gm c a) a.Zaw.length s) (Ret.forL (L3 (gm c a)) (by omega) ?_ (fun i s hi hs => ?_) (fun s h=>⟨s,rfl,h⟩)) ?_
    · refine ⟨hlr,fun j hj => ?_,?_⟩
      · rw [hr j hj];unfold r2
        split
        · rfl
        · rw [if_neg (by omega)]
      · simp only;rw [hk];unfold K2;rw [List.range_zero,List.filter_nil,List.append_nil];rfl
    · obtain ⟨R1,K1⟩:=s
      obtain ⟨h1,h2,h3⟩:=hs
      simp only at h1 h2 h3 ⊢
      have hown:(gm c a).own i=a.Zaw[i].own:=by
        show (match a.Zaw[i]? with | some q=>q.own | none=>false)=_
        rw [List.getElem?_eq_getElem hi]
      have hsame:xw (gm c a) i=false→L3 (gm c a) (i+1) (R1,K1):=fun ht=>by
        refine ⟨h1,fun j hj => ?_,?_⟩
        · simp only;rw [h2 j hj];unfold r2
          split
          · rfl
          · by_cases e:j=i
            · subst e;rw [if_neg (by rw [ht];simp),if_neg (by rw [ht];simp)]
            · by_cases e2:xw (gm c a) j=true∧j < i
              · rw [if_pos e2,if_pos ⟨e2.1,by omega⟩]
              · rw [if_neg e2,if_neg (fun h=>e2 ⟨h.1,by have:=h.2;omega⟩)]
        · simp only;rw [h3];unfold K2;rw [List.range_succ,List.filter_append];simp [ht]
      refine Ret.bind (P:=fun v=>L3 (gm c a) (i+1) v) ?_ (fun v hv=>Ret.some hv)
      refine Ret.bindE (zl (List.getElem?_eq_getElem hi)) ?_
      have hv3:(bif a.Zaw[i].own then (Option.bind (zk a.Zaw.length (i:Int)) fun k7=>(Option.bind (O[k7]?) fun e9=>(bif (e9 == 0) then (Option.bind (zk a.Zaw.length (i:Int)) fun k8=>(Option.bind (R1[k8]?) fun e10=>some (e10 == (-1)))) else some false))) else some false)=some (xw (gm c a) i):=by
        rw [zU hi]
        simp only [ZaI]
        rw [xS (by omega:i < O.length),xS (by omega:i < R1.length)]
        simp only [ZaI]
        rw [ho i hi,h2 i hi,←hown]
        unfold xw r2
        cases e1:(gm c a).own i with
        | false=>rfl
        | true=>
          cases e2:(gm c a).succ i with
          | cons x l=>
            rw [beq_eq_false_iff_ne.2 (by simp;omega)];simp
          | nil=>
            cases e3:(gm c a).lost i with
            | true=>rfl
            | false=>simp
      refine Ret.bindE hv3 ?_
      refine Ret.ite (fun ht => ?_) (fun ht=>Ret.some (hsame ht))
      have hK1:K1.length≤4000:=by
        rw [h3,yU]
        have:=zjt (gm c a) i
        omega
      refine Ret.bindE (WZ 0 hi h1 hK1) ?_
      refine Ret.some ⟨by simp [h1],fun j hj => ?_,?_⟩
      · simp only
        rw [kA (by omega)]
        unfold upd
        by_cases e:j=i
        · subst e
          have h4:(gm c a).lost j=false:=by
            simp only [xw,Bool.and_eq_true,Bool.not_eq_true'] at ht;exact ht.2.1
          rw [if_pos rfl];unfold r2;rw [if_neg (by rw [h4];simp),if_pos ⟨ht,by omega⟩]
        · rw [if_neg e,h2 j hj];unfold r2
          split
          · rfl
          · by_cases e2:xw (gm c a) j=true∧j < i
            · rw [if_pos e2,if_pos ⟨e2.1,by omega⟩]
            · rw [if_neg e2,if_neg (fun h=>e2 ⟨h.1,by have:=h.2;omega⟩)]
      · simp only;rw [h3];unfold K2;rw [List.range_succ,List.filter_append,←List.append_assoc,JW];simp [ht,cst]
    · rintro _ ⟨⟨R1,K1⟩,rfl,h1,h2,h3⟩
      simp only [Sum.elim_inl] at h1 h2 h3 ⊢
      obtain ⟨hB,hbd⟩:=zeG (G:=gm c a) (r:=at_ R1) (o:=at_ O) h2 ho
      have hQ0:=zeI (bef:=B) (P:=[]) hn h1 hlo hB (by rw [List.nil_append];exact hbd)
      refine Ret.bind (P:=fun v:List Int=>v.length=(gm c a).n∧yq (gm c a) (at_ v)∧∀ i,i < (gm c a).n→at_ v i≤1500) ?_ ?_
      · obtain ⟨z,hz,hq,_⟩:=hQ0
        have hK1:K1=cst ([]++K2 (gm c a) (gm c a).n):=by rw [h3,List.nil_append];rfl
        rw [hK1]
        refine Ret.bindE hz ?_
        refine Ret.bind (P:=fun y:List Int=>y.length=(gm c a).n∧yq (gm c a) (at_ y)∧∀ i,i < (gm c a).n→at_ y i≤1500) (Ret.iter (QI (gm c a) B) (fun s=>2*((gm c a).n+2 - s.2.2.2.2.2.toNat)+(bif s.2.1 then 1 else 0)) hq (fun s hs => ?_)) (fun y hy=>Ret.some hy)
        obtain ⟨to,ok,R2,O2,K3,nx⟩:=s
        obtain ⟨g1,g2,P,Q,g3,g4,g5,g6⟩:=hs
        simp only at g1 g2 g3 g4 g5 g6 ⊢
        have hKn:(P++Q).length≤(gm c a).n:=by
          have:=Ql (L2:=List.range (gm c a).n) g3.core.nd (fun y hy=>List.mem_range.2 (g3.core.lt y hy))
          rwa [List.length_range] at this
        rcases g6 with ⟨rfl,rfl,g7⟩ | ⟨rfl,u,Q',rfl,rfl,rfl⟩
        · refine Ret.ite (fun h=>by cases h) (fun _ => ?_)
          exact Ret.some ⟨g1,(g3.done A.closed).ok A.closed,fun i hi=>by have:=g4 i hi;omega⟩
        · refine Ret.ite (fun _ => ?_) (fun h=>by cases h)
          have E:=g3.enter
          obtain ⟨_,hun,_⟩:=E.core.split
          obtain ⟨l,l1,l2,l3⟩:=hbef.row u hun
          have hcount:∀ x,x < (gm c a).n→l.count x=((gm c a).succ x).count u:=fun x hx=>by rw [l3 x,if_pos (by rw [←hgn];exact hx)]
          have hlmem:∀ x∈l,x < (gm c a).n:=fun x hx=>by
            have h5:0 < l.count x:=List.count_pos_iff.2 hx
            rw [l3 x] at h5
            split at h5
            · rename_i h6;exact h6
            · split at h5
              · simp at h5
              · omega
          refine Ret.bindE (zU hun) ?_
          refine Ret.bindE l1 ?_
          refine Ret.bind (P:=fun o:(List Int×List Int×List Int) ⊕ Unit=>∃ s5,o=.inl s5∧s5.1.length=(gm c a).n∧s5.2.1.length=(gm c a).n∧∃ Q2,s5.2.2=cst (P++u::Q2)∧EInv (gm c a) (at_ s5.1) (at_ s5.2.1) P u Q2 (fun y=>l.count y)∧Bnd (gm c a) (at_ s5.1) (P++u::Q2).length) ?_ ?_
          · rw [yU]
            refine Ret.forL (fun k s5=>s5.1.length=(gm c a).n∧s5.2.1.length=(gm c a).n∧∃ Q2,s5.2.2=cst (P++u::Q2)∧EInv (gm c a) (at_ s5.1) (at_ s5.2.1) P u Q2 (fun y=>(l.take k).count y)∧Bnd (gm c a) (at_ s5.1) (P++u::Q2).length) (by omega) ⟨g1,g2,Q',g5,by simpa using E,g4⟩ (fun k s5 hk hs5 => ?_) (fun s5 h=>⟨s5,rfl,by rw [List.take_length] at h;exact h⟩)
            obtain ⟨R4,O4,K4⟩:=s5
            obtain ⟨i1,i2,Q2,i3,i4,i5⟩:=hs5
            simp only at i1 i2 i3 i4 i5 ⊢
            have hx:=hlmem _ (List.getElem_mem hk)
            refine Ret.bindE (zl (e:=(l[k]:Int)) (by unfold cst;rw [List.getElem?_map,List.getElem?_eq_getElem hk];rfl)) ?_
            rw [i3]
            refine Ret.bind (zgd hc A _ i1 i2 i4 i5 hx ?_) (fun z hz => ?_)
            · have h6:=W0 hk l[k]
              unfold upd at h6
              rw [if_pos rfl] at h6
              have h7:(l.take (k+1)).count l[k]≤l.count l[k]:=(List.take_sublist _ _).count_le _
              rw [hcount _ hx] at h7
              show (l.take k).count l[k] < _
              omega
            · obtain ⟨j1,j2,Q3,j3,j4,j5⟩:=hz
              refine Ret.some ⟨j2,j1,Q3,j3,?_,j5⟩
              simp only
              rw [zeH hk];exact j4
          · rintro _ ⟨⟨R4,O4,K4⟩,rfl,i1,i2,Q2,i3,i4,i5⟩
            simp only [Sum.elim_inl] at i1 i2 i3 i4 i5 ⊢
            have hB2:=i4.leave hcount
            have hPQ:P++[u]++Q2=P++u::Q2:=by simp
            obtain ⟨z2,hz2,hq2,hz3,hz4⟩:=zeI (bef:=B) (P:=P++[u]) (Q:=Q2) hn i1 i2 hB2 (by rw [hPQ];exact i5)
            rw [hPQ] at hz2 hq2
            rw [i3]
            have hnx:((P++[u]).length:Int)=(P.length:Int)+1:=by simp
            rw [hnx] at hz2
            refine Ret.bindE hz2 ?_
            refine Ret.some ⟨hq2,?_⟩
            simp only [cond_true]
            rw [List.length_append] at hz3 hz4
            simp only [List.length_cons,List.length_nil] at hz3 hz4
            rcases hz3 with ⟨e1,e2⟩ | ⟨e1,e2⟩
            · rw [e1,e2,ZaH];omega
            · rw [e1,e2,cond_true];omega
      · intro v hv
        refine Ret.bindE (x8 (hgn.symm.trans hv.1.symm)) ?_
        exact Ret.some hv
end
end
theorem zeK {free:Bool} {k:Zan} {m:zw} (h:qB m=false):jJ free k m=m:=by unfold jJ;rw [h];rfl
theorem zcV {act:Int} {k:Zan} {m:zw} (h:qB m=false):xj act k m=m:=by unfold xj;rw [h];rfl
theorem zge {act b:Int} {k:Zan} {m:zw} (h:qB m=false):ve act b k m=m:=by unfold ve;rw [h];rfl
theorem zeL {a:Zaq} {k:Zan} {m:zw} (h:qB m=false):kX a k m=m:=by unfold kX;rw [h];rfl
theorem JX {c:Zab} {F:Zan→zw→zw} {ms:List zw} {i:Nat} {m:zw} (h:ms[i]?=some m) (hF:∀ k,F k m=m):(ms.mapIdx (atK c F))[i]?=some m:=by
  rw [List.getElem?_mapIdx,h]
  simp only [Option.map_some,atK]
  cases c.Zag[i]? with
  | none=>rfl
  | some k=>simp [hF k]
theorem StartP.get {c:Zab} {hs:List Int} {ms r:List zw} (h:StartP c hs ms r) {i:Nat} {m:zw} (hi:i < c.Zag.length) (hm:ms[i]?=some m) (h0:m.Zam≠0):r[i]?=some m:=by
  have hl:i < r.length:=by rw [h.ok.1];exact hi
  rw [List.getElem?_eq_getElem hl]
  rcases h.rel i m r[i] hm (List.getElem?_eq_getElem hl) with e | ⟨e,_⟩
  · rw [e]
  · exact absurd e h0
theorem zaG {c:Zab} (hc:c.Ok) {s:Zac} {a:Int} (hv:VS c s) (h1 : -1≤a) (h2:a < c.Zai.length) (hd:s.day < c.Zat) {i:Nat} {m:zw} (hm:s.Zaj[i]?=some m) (hr:qB m=false) (h0:m.Zam≠0):(qj c s a).Zaj[i]?=some m:=by
  obtain ⟨_,_,ht,ha⟩:=jC hc hv h1 h2 hd
  have hi:i < c.Zag.length:=by rw [←hv.lm];exact (List.getElem?_eq_some_iff.1 hm).1
  by_cases e:a = -1
  · obtain ⟨_,_,_,hS⟩:=ht e
    exact hS.get hi (JX hm fun k=>zeK hr) h0
  · obtain ⟨j,hj⟩:∃ j:Nat,a=(j:Int):=⟨a.toNat,by omega⟩
    have hjl:j < c.Zai.length:=by omega
    rcases ha j c.Zai[j] hj (List.getElem?_eq_getElem hjl) with ⟨_,_,e2⟩ | ⟨_,_,_,_,hS⟩
    · rw [e2];exact hm
    · have g1:(ms1 c j s.Zaj)[i]?=some m:=JX hm fun k=>zcV hr
      have g2:(ms2 c j c.Zai[j] s.Zae s.Zaj)[i]?=some m:=JX g1 fun k=>zge hr
      have g3:(ms3 c j c.Zai[j] s.Zae s.Zaj)[i]?=some m:=by
        unfold ms3
        cases c.Zai[j].kind == 3 with
        | true=>exact JX g2 fun k=>zeL hr
        | false=>exact g2
      exact hS.get hi g3 h0
theorem zbj (c:Zab) (q:Zah):target c q (-2)={state:=q.state,own:=false}:=if_pos rfl
theorem zbk (c:Zab) (q:Zah) {m:Int} (h : -1≤m):target c q m={state:=qj c q.state m,own:=true}:=if_neg (by omega)
theorem zgf {c:Zab} {Zaa:Int} {p:Zah} {r:ZaF×Int} (h:x4 c Zaa p=some r) (hr:r.2≠0):r.1=WY:=by
  unfold x4 at h
  obtain ⟨b,_,h⟩:=jQ h
  cases b with
  | false=>cases h;rfl
  | true=>
    rw [cond_true] at h
    obtain ⟨_,_,h⟩:=jQ h
    obtain ⟨_,_,h⟩:=jQ h
    obtain ⟨o,_,h⟩:=jQ h
    cases o with
    | inl s=>cases h;exact absurd rfl hr
    | inr u=>cases h;rfl
theorem zeM {c:Zab} {Zaa:Int} {r:ZaF×Int} (h:ju c Zaa=some r) (hr:r.2≠0):r.1=WY:=by
  unfold ju at h
  obtain ⟨s,_,h⟩:=jQ h
  cases hs:(s.2 == 0) with
  | true=>
    rw [hs,cond_true] at h
    obtain ⟨f,hf,h⟩:=jQ h
    cases h
    exact zgf hf hr
  | false=>rw [hs] at h;cases h;rfl
def zju (c:Zab) (Zaa:Int) (r:ZaF×Int):Prop:=(r.2≠0∧r.1=WY)∨(r.2=0∧∃ s0,qA c=some (s0,0)∧VS c s0∧ArOk c Zaa {state:=s0,own:=true} r.1)
theorem zhK {c:Zab} (hc:c.Ok) (Zaa:Int):Ret (ju c Zaa) (zju c Zaa):=by
  obtain ⟨r,hr,h⟩:=zeD hc Zaa
  refine ⟨r,hr,?_⟩
  rcases h with h | ⟨h,s0,h1,h2,h3,h4,h5,h6⟩
  · exact .inl ⟨h,zeM hr h⟩
  · exact .inr ⟨h,s0,h1,h2,h3,h4,h5,h6⟩
section
section
variable {c:Zab} {Zaa:Int} {p:Zah} {a:ZaF}
theorem ArOk.lost (A:ArOk c Zaa p a) {i:Nat} (hi:i < a.Zaw.length):(gm c a).lost i=jR c a.Zaw[i].state Zaa:=by
  show (match a.Zaw[i]? with | some q=>jR c q.state a.Zaa | none=>false)=_
  rw [List.getElem?_eq_getElem hi,A.pa]
theorem ArOk.own (A:ArOk c Zaa p a) {i:Nat} (hi:i < a.Zaw.length):(gm c a).own i=a.Zaw[i].own:=by
  show (match a.Zaw[i]? with | some q=>q.own | none=>false)=_
  rw [List.getElem?_eq_getElem hi]
theorem ArOk.pos (A:ArOk c Zaa p a):0 < a.Zaw.length:=(List.getElem?_eq_some_iff.1 A.F.first).1
theorem ArOk.tgt (A:ArOk c Zaa p a) {i:Nat} (hi:i < a.Zaw.length) {T:List Zar} (hT:a.moves[i]?=some T) {m:Zar} (hm:m∈T) :
    m.step∈zE c Zaa a.Zaw[i]∧0≤m.to∧∃ h:m.to.toNat < a.Zaw.length,a.Zaw[m.to.toNat]=target c a.Zaw[i] m.step:=by
  obtain ⟨T',h1,h2,h3⟩:=A.mv hi
  rw [hT] at h1;cases h1
  obtain ⟨h4,h5⟩:=h3 m hm
  obtain ⟨h6,h7⟩:=List.getElem?_eq_some_iff.1 h5
  exact ⟨by rw [←h2];exact List.mem_map.2 ⟨m,hm,rfl⟩,h4,h6,h7⟩
theorem ArOk.ne (A:ArOk c Zaa p a) {i:Nat} (hi:i < a.Zaw.length) {T:List Zar} (hT:a.moves[i]?=some T) (ho:a.Zaw[i].own=true):T≠[]:=by
  obtain ⟨T',h1,h2,_⟩:=A.mv hi
  rw [hT] at h1;cases h1
  intro e
  subst e
  have:(-2:Int)∈zE c Zaa a.Zaw[i]:=wH.2 (.inl ⟨ho,rfl⟩)
  rw [←h2] at this;cases this
theorem Jl {G:Gm} {r:Nat→Int} (h:yq G r) {i:Nat} (hi:i < G.n):r i=0↔G.lost i=true:=by
  have h0:=(h i hi).2 0
  have h1:=(h i hi).1
  constructor
  · intro e;exact h0.1 ⟨by omega,by omega⟩
  · intro e;have:=h0.2 e;omega
end
end
section
def AttrP (c:Zab) (Zaa:Int):Nat→Zah→Prop
  | 0,q=>jR c q.state Zaa=true
  | k+1,q=>jR c q.state Zaa=true∨(q.own=true∧∀ m∈zE c Zaa q,AttrP c Zaa k (target c q m))∨(q.own=false∧∃ m∈zE c Zaa q,AttrP c Zaa k (target c q m))
def zcW (c:Zab) (Zaa:Int) (q:Zah):Prop:=∀ k,¬ AttrP c Zaa k q
theorem AttrP.zero {c:Zab} {Zaa:Int} {q:Zah} (h:jR c q.state Zaa=true):∀ k,AttrP c Zaa k q
  | 0=>h
  | k+1=>.inl h
theorem AttrP.succ1 {c:Zab} {Zaa:Int}:∀ {k:Nat} {q:Zah},AttrP c Zaa k q→AttrP c Zaa (k+1) q
  | 0,q,h=>.inl h
  | k+1,q,h=>by
    rcases h with h | ⟨h1,h2⟩ | ⟨h1,t,h2,h3⟩
    · exact .inl h
    · exact .inr (.inl ⟨h1,fun t ht=>(h2 t ht).succ1⟩)
    · exact .inr (.inr ⟨h1,t,h2,h3.succ1⟩)
theorem AttrP.mono {c:Zab} {Zaa:Int} {k k':Nat} {q:Zah} (hk:k≤k') (h:AttrP c Zaa k q):AttrP c Zaa k' q:=by
  induction hk with
  | refl=>exact h
  | step _ ih=>exact ih.succ1
section
variable {c:Zab} {Zaa:Int} {p:Zah} {a:ZaF}
theorem zeN (A:ArOk c Zaa p a):∀ (k i:Nat) (hi:i < a.Zaw.length),Attr (gm c a) k i↔AttrP c Zaa k a.Zaw[i]
  | 0,i,hi=>by show (gm c a).lost i=true↔_;rw [A.lost hi];rfl
  | k+1,i,hi=>by
    obtain ⟨T,hT,hst,_⟩:=A.mv hi
    have hs:=A.succ hi hT
    have go:∀ m∈T,(Attr (gm c a) k m.to.toNat↔AttrP c Zaa k (target c a.Zaw[i] m.step)):=fun m hm=>by
      obtain ⟨_,_,t3,t4⟩:=A.tgt hi hT hm
      rw [zeN A k _ t3,t4]
    have hall:(∀ t∈(gm c a).succ i,Attr (gm c a) k t)↔∀ m∈zE c Zaa a.Zaw[i],AttrP c Zaa k (target c a.Zaw[i] m):=by
      rw [hs,←hst]
      constructor
      · intro h x hx
        obtain ⟨m,hm,rfl⟩:=List.mem_map.1 hx
        exact (go m hm).1 (h _ (List.mem_map.2 ⟨m,hm,rfl⟩))
      · intro h x hx
        obtain ⟨m,hm,rfl⟩:=List.mem_map.1 hx
        exact (go m hm).2 (h _ (List.mem_map.2 ⟨m,hm,rfl⟩))
    have hex:(∃ t∈(gm c a).succ i,Attr (gm c a) k t)↔∃ m∈zE c Zaa a.Zaw[i],AttrP c Zaa k (target c a.Zaw[i] m):=by
      rw [hs,←hst]
      constructor
      · rintro ⟨x,hx,h⟩
        obtain ⟨m,hm,rfl⟩:=List.mem_map.1 hx
        exact ⟨_,List.mem_map.2 ⟨m,hm,rfl⟩,(go m hm).1 h⟩
      · rintro ⟨x,hx,h⟩
        obtain ⟨m,hm,rfl⟩:=List.mem_map.1 hx
        exact ⟨_,List.mem_map.2 ⟨m,hm,rfl⟩,(go m hm).2 h⟩
    show ((gm c a).lost i=true∨((gm c a).own i=true∧∀ t∈(gm c a).succ i,Attr (gm c a) k t)∨((gm c a).own i=false∧∃ t∈(gm c a).succ i,Attr (gm c a) k t))↔_
    rw [A.lost hi,A.own hi,hall,hex]
    rfl
def RankP (c:Zab) (Zaa:Int) (q:Zah) (x:Int):Prop := -1≤x∧∀ k:Nat,(x ≠ -1∧x≤k)↔AttrP c Zaa k q
theorem zjv (A:ArOk c Zaa p a) {r:Nat→Int} (hr:yq (gm c a) r) {i:Nat} (hi:i < a.Zaw.length):RankP c Zaa a.Zaw[i] (r i):=
  ⟨(hr i hi).1,fun k=>((hr i hi).2 k).trans (zeN A k i hi)⟩
theorem RankP.safe {q:Zah} {x:Int} (h:RankP c Zaa q x):x = -1↔zcW c Zaa q:=by
  constructor
  · intro e k hk
    exact ((h.2 k).2 hk).1 e
  · intro hs
    have:=h.1
    by_cases e:x = -1
    · exact e
    · exact absurd ((h.2 x.toNat).1 ⟨e,by omega⟩) (hs _)
end
end
section
open Classical in
noncomputable def xT (c:Zab) (Zaa:Int) (q:Zah):Bool:=decide (zcW c Zaa q)
theorem YA {c:Zab} {Zaa:Int} {q:Zah}:xT c Zaa q=true↔zcW c Zaa q:=by unfold xT;simp
section
variable {c:Zab} {Zaa:Int} {p:Zah} {a:ZaF}
noncomputable def zgg (c:Zab) (Zaa:Int) (q:Zah):Int:=
  bif q.own&&xT c Zaa q then ((zE c Zaa q).find? fun m=>xT c Zaa (target c q m)).getD (-2) else -2
end
end
section
def atO (s:Zac):Zah:={state:=s,own:=true}
section
variable {c:Zab} {Zaa:Int} {p:Zah} {a:ZaF}
end
end
section
noncomputable def stF (c:Zab) (s0:Zac) (l:List Int):Zac:=l.foldl (fun s x=>qj c s x) s0
theorem Qm (c:Zab) (s0:Zac) (l:List Int) (x:Int):stF c s0 (l++[x])=qj c (stF c s0 l) x:=by unfold stF;rw [List.foldl_append];rfl
structure TrOk (c:Zab) (P:Zac→Prop) (s0:Zac) (l:List Int):Prop where
  first:P s0
  step:∀ (k:Nat) (hk:k < l.length),(stF c s0 (l.take k)).day < c.Zat ∧ -1≤l[k]∧l[k] < c.Zai.length∧P (stF c s0 (l.take (k+1)))
section
variable {c:Zab} {P:Zac→Prop} {s0:Zac} {l:List Int}
theorem TrOk.nil (h:P s0):TrOk c P s0 []:=⟨h,fun k hk=>by simp at hk⟩
theorem TrOk.snoc (h:TrOk c P s0 l) {x:Int} (hd:(stF c s0 l).day < c.Zat) (h0 : -1≤x) (h1:x < c.Zai.length) (hP:P (qj c (stF c s0 l) x)):TrOk c P s0 (l++[x]):=by
  refine ⟨h.first,fun k hk => ?_⟩
  rw [List.length_append] at hk
  simp only [List.length_cons,List.length_nil] at hk
  by_cases e:k=l.length
  · subst e
    have e1:(l++[x]).take l.length=l:=by simp
    have e2:(l++[x]).take (l.length+1)=l++[x]:=List.take_of_length_le (by simp)
    rw [e1,e2,Qm]
    simp only [List.getElem_append_right (Nat.le_refl _),Nat.sub_self,List.getElem_cons_zero]
    exact ⟨hd,h0,h1,hP⟩
  · have hk2:k < l.length:=by omega
    rw [List.take_append_of_le_length (by omega),List.take_append_of_le_length (by omega),List.getElem_append_left hk2]
    exact h.step k hk2
theorem TrOk.take (h:TrOk c P s0 l) (n:Nat):TrOk c P s0 (l.take n):=by
  refine ⟨h.first,fun k hk => ?_⟩
  rw [List.length_take] at hk
  have h1:=h.step k (by omega)
  rw [List.take_take,List.take_take,show min k n=k by omega,show min (k+1) n=k+1 by omega,List.getElem_take]
  exact h1
theorem TrOk.all (h:TrOk c P s0 l):∀ k,k≤l.length→P (stF c s0 (l.take k))
  | 0,_=>by rw [List.take_zero];exact h.first
  | k+1,hk=>(h.step k (by omega)).2.2.2
theorem TrOk.vs (hc:c.Ok) (hv:VS c s0) (h:TrOk c P s0 l):∀ k,k≤l.length→VS c (stF c s0 (l.take k))
  | 0,_=>by rw [List.take_zero];exact hv
  | k+1,hk=>by
    obtain ⟨a1,a2,a3,_⟩:=h.step k (by omega)
    have h2:=TrOk.vs hc hv h k (by omega)
    rw [List.take_succ_eq_append_getElem (by omega),Qm]
    exact (jC hc h2 a2 a3 a1).2.1
theorem TrOk.vsl (hc:c.Ok) (hv:VS c s0) (h:TrOk c P s0 l):VS c (stF c s0 l):=by
  have:=h.vs hc hv l.length (Nat.le_refl _)
  rwa [List.take_length] at this
end
def JY (c:Zab) (s:Zac) (x:Int):Int:=if x = -1 then -1 else match c.Zai[x.toNat]? with
  | some a=>qX s.Zae a
  | none => -1
section
variable {c:Zab} {Zaa:Int} {p:Zah} {a:ZaF}
end
end
section
inductive Adv (c:Zab) (Zaa:Int) (s0:Zac):List Int→List Int→Prop where
  | stop {l:List Int} (h:zgg c Zaa (atO (stF c s0 l)) = -2):Adv c Zaa s0 l l
  | go {l l2:List Int} (h:zgg c Zaa (atO (stF c s0 l)) ≠ -2) (t:Adv c Zaa s0 (l++[zgg c Zaa (atO (stF c s0 l))]) l2):Adv c Zaa s0 l l2
inductive Fw (c:Zab) (Zaa:Int) (s0:Zac):List Int→List Int→List Int→Prop where
  | done {l:List Int}:Fw c Zaa s0 [] l l
  | stop {o:Int} {os l:List Int} (h:(stF c s0 l).day=c.Zat):Fw c Zaa s0 (o::os) l l
  | own {o:Int} {os l l1 l2:List Int} (h:(stF c s0 l).day≠c.Zat) (ha:Adv c Zaa s0 l l1) (hd:JY c (stF c s0 l1) o=Zaa) (t:Fw c Zaa s0 os l1 l2):Fw c Zaa s0 (o::os) l l2
  | oth {o:Int} {os l l1 l2:List Int} (h:(stF c s0 l).day≠c.Zat) (ha:Adv c Zaa s0 l l1) (hd:JY c (stF c s0 l1) o≠Zaa) (t:Fw c Zaa s0 os (l1++[o]) l2):Fw c Zaa s0 (o::os) l l2
section
variable {c:Zab} {Zaa:Int} {s0:Zac} {a:ZaF}
abbrev Any (s:Zac):Prop:=True
end
end
section
def txs (s:Zac):ByteArray:=⟨(qh s).toArray⟩
theorem Zg (s:Zac):qo {state:=s,own:=false}=zV false++qh s:=by simp [qo,qh,List.append_assoc]
theorem zhL {c:Zab} {s t:Zac} (hs:VS c s) (ht:VS c t) (h:txs s=txs t):s=t:=by
  have h2:=congrArg (fun b:ByteArray=>b.data.toList) h
  have h3:qh s=qh t:=by simpa [txs] using h2
  have:=zaB (p:={state:=s,own:=false}) (q:={state:=t,own:=false}) hs ht (by rw [Zg,Zg,h3])
  exact congrArg Zah.state this
theorem zbQ {c:Zab} (hc:c.Ok) {s:Zac} (hs:VS c s):wD s=some (txs s):=by
  have h:=Jj hc (p:={state:=s,own:=false}) hs
  unfold jI at h
  split at h
  · rename_i hok
    unfold wD
    rw [if_pos]
    · rfl
    · simp only [okP,Bool.and_eq_true,decide_eq_true_eq] at hok
      simp only [zag,Bool.and_eq_true,decide_eq_true_eq]
      refine ⟨hok.1,?_⟩
      have:=hok.2
      rw [Zg,List.length_append] at this
      omega
  · cases h
theorem zkV (l:List Int) (hl:l.length < 4611686018427387904):ko l=some l.reverse:=by
  refine Ret.eq ?_
  unfold ko
  refine Ret.bind (P:=fun r=>r=l.reverse) ?_ (fun v hv=>Ret.some hv)
  refine Ret.iter (fun s:Int×Int×List Int=>0≤s.1∧s.1+s.2.1=(l.length:Int) - 1 ∧ -1≤s.2.1∧s.1≤(l.length:Int)∧s.2.2.length=l.length∧∀ (t:Nat),(((t:Int) < s.1∨s.2.1 < t)→s.2.2[t]?=l.reverse[t]?)∧(s.1≤t∧(t:Int)≤s.2.1→s.2.2[t]?=l[t]?)) (fun s=>(s.2.1+1).toNat) ?_ ?_
  · rw [zY (by omega) (by omega)]
    refine ⟨by simp,by simp only;omega,by simp only;omega,by simp only;omega,rfl,fun t=>⟨fun h => ?_,fun _=>rfl⟩⟩
    simp only at h
    show l[t]?=l.reverse[t]?
    rw [List.getElem?_eq_none (by omega),List.getElem?_eq_none (by rw [List.length_reverse];omega)]
  rintro ⟨i,j,cur⟩ ⟨h1,h2,h3,h4,h5,h6⟩
  simp only at h1 h2 h3 h4 h5 h6 ⊢
  refine Ret.ite (fun h => ?_) (fun h => ?_)
  · have hij:=of_decide_eq_true h
    obtain ⟨a,rfl⟩:∃ a:Nat,i=(a:Int):=⟨i.toNat,by omega⟩
    obtain ⟨b,rfl⟩:∃ b:Nat,j=(b:Int):=⟨j.toNat,by omega⟩
    have ha:a < l.length:=by omega
    have hb:b < l.length:=by omega
    refine Ret.bindE (zU hb) ?_
    have eb:cur[b]?=some l[b]:=by rw [(h6 b).2 ⟨by omega,by omega⟩,List.getElem?_eq_getElem hb]
    have ea:cur[a]?=some l[a]:=by rw [(h6 a).2 ⟨by omega,by omega⟩,List.getElem?_eq_getElem ha]
    refine Ret.bindE eb ?_
    refine Ret.bindE (zU ha) ?_
    refine Ret.bindE ea ?_
    refine Ret.bindE (v:=l[b]) (by rw [List.getElem?_set_ne (by omega)];exact eb) ?_
    rw [zY (by omega) (by omega),zY (by omega) (by omega)]
    refine Ret.some ⟨⟨by simp only;omega,by simp only;omega,by simp only;omega,by simp only;omega,by simp [h5],fun t => ?_⟩,by simp only;omega⟩
    simp only
    have hr:∀ x:Nat,x < l.length→l.reverse[x]?=l[l.length - 1 - x]?:=fun x hx=>by
      rw [List.getElem?_reverse hx]
    by_cases e1:t=b
    · subst e1
      refine ⟨fun _ => ?_,fun h=>by omega⟩
      rw [List.getElem?_set_self (by simp [h5];omega),hr _ hb,show l.length - 1 - t=a by omega,List.getElem?_eq_getElem ha]
    · by_cases e2:t=a
      · subst e2
        refine ⟨fun _ => ?_,fun h=>by omega⟩
        rw [List.getElem?_set_ne (by omega),List.getElem?_set_self (by omega),hr _ ha,show l.length - 1 - t=b by omega,List.getElem?_eq_getElem hb]
      · rw [List.getElem?_set_ne (by omega),List.getElem?_set_ne (by omega)]
        exact ⟨fun h=>(h6 t).1 (by omega),fun h=>(h6 t).2 (by omega)⟩
  · have hij:=of_decide_eq_false h
    refine Ret.some (List.ext_getElem? fun t => ?_)
    by_cases e:(t:Int) < i∨j < (t:Int)
    · exact (h6 t).1 e
    · rw [(h6 t).2 (by omega)]
      have ht:t < l.length:=by omega
      rw [List.getElem?_reverse ht,show l.length - 1 - t=t by omega]
def W2 (c:Zab) (L:List Zac) (n:Nat) (b:Int) (m:Nat):Prop:=∃ s,L[n]?=some s∧s.day < c.Zat ∧ -1≤b∧b < (c.Zai.length:Int)∧L[m]?=some (qj c s b)
def zaH (c:Zab) (L:List Zac) (n:Nat) (b:Int) (m:Nat):Prop:=W2 c L n b m∧∀ (n':Nat) (b':Int),n' < n→¬ W2 c L n' b' m
theorem JZ {L:List Zac} (h:L.Nodup) {i j:Nat} {q:Zac} (hi:L[i]?=some q) (hj:L[j]?=some q):i=j:=
  (List.getElem?_inj (List.getElem?_eq_some_iff.1 hi).1 h).1 (hi.trans hj.symm)
def zgQ (c:Zab) (L:List Zac) (n:Nat) (P:List (ByteArray×Int)):Prop:=∀ q:Zac,VS c q→(∀ j:Nat,j < n→L[j]?=some q→zq (txs q) P=some (j:Int))∧((∀ j:Nat,j < n→L[j]?≠some q)→zq (txs q) P=none)
structure CInv (c:Zab) (L:List Zac) (i:Nat) (a:Int) (K:List (Int×Zax)):Prop where
  el:∀ (m:Nat) (e:Zax),zq (m:Int) K=some e→0 < m∧∃ n:Nat,e.from_=(n:Int)∧zaH c L n e.step m
  has:∀ (n:Nat) (b:Int) (m:Nat),0 < m→W2 c L n b m→(n < i∨(n=i∧b < a))→∃ e,zq (m:Int) K=some e
def W3 (c:Zab) (L:List Zac) (K:List (Int×Zax)):Prop:=∀ m:Nat,0 < m→m < L.length→∃ (e:Zax) (n:Nat),zq (m:Int) K=some e∧e.from_=(n:Int)∧n < m∧zaH c L n e.step m
section
variable {c:Zab} {s0:Zac} {L:List Zac}
theorem zgh (h:ReachOk c s0 L) {n:Nat} {s:Zac} (hn:L[n]?=some s) (hd:s.day < c.Zat) {b:Int} (h1 : -1≤b) (h2:b < (c.Zai.length:Int)):∃ m,W2 c L n b m:=by
  have:=h.done s (List.mem_of_getElem? hn) hd b h1 h2
  obtain ⟨m,hm,e⟩:=List.getElem_of_mem this
  exact ⟨m,s,hn,hd,h1,h2,by rw [List.getElem?_eq_getElem hm,e]⟩
theorem zeO (hc:c.Ok) (h:ReachOk c s0 L):Ret (yQ c L) (fun r=>∃ K,r=some K∧W3 c L K):=by
  have hlen:=h.inv.len
  have sa:=(qr (hc.off.lt (by omega:0 < 8)) (h.inv.vs _ h.first).cv).Zai
  unfold yQ
  refine Ret.bind (P:=fun o:(List (ByteArray×Int)) ⊕ Unit=>∃ P,o=.inl P∧zgQ c L L.length P) (Ret.forL (fun i P=>zgQ c L i P) (by omega) (fun q _=>⟨fun j hj=>by omega,fun _=>rfl⟩) (fun i P hi hP => ?_) (fun P hP=>⟨P,rfl,hP⟩)) ?_
  · refine Ret.bindE (zl (List.getElem?_eq_getElem hi)) ?_
    have hv:=h.inv.vs _ (List.getElem_mem hi)
    refine Ret.bindE (zbQ hc hv) ?_
    refine Ret.some fun q hq => ?_
    by_cases e:q=L[i]
    · subst e
      rw [jw]
      refine ⟨fun j hj hjq => ?_,fun hn=>absurd (List.getElem?_eq_getElem hi) (hn i (by omega))⟩
      rw [JZ h.inv.nd hjq (List.getElem?_eq_getElem hi)]
    · rw [jW _ (fun e2=>e (zhL hq hv e2))]
      refine ⟨fun j hj hjq=>(hP q hq).1 j ?_ hjq,fun hn=>(hP q hq).2 fun j hj=>hn j (by omega)⟩
      by_cases e3:j=i
      · subst e3
        rw [List.getElem?_eq_getElem hi] at hjq
        exact absurd (Option.some.inj hjq).symm e
      · omega
  rintro o ⟨P,rfl,hP⟩
  simp only [Sum.elim_inl]
  refine Ret.bind (P:=fun o:(List (Int×Zax)) ⊕ Unit=>∃ K,o=.inl K∧CInv c L L.length (-1) K) (Ret.forL (fun i K=>CInv c L i (-1) K) (by omega) ⟨fun m e he=>by simp [zq] at he,fun n b m _ hE hp => ?_⟩ (fun i K hi hK => ?_) (fun K hK=>⟨K,rfl,hK⟩)) ?_
  · obtain ⟨_,_,_,h1,_⟩:=hE
    omega
  · have hie:=List.getElem?_eq_getElem hi
    have hv:=h.inv.vs _ (List.getElem_mem hi)
    refine Ret.bind (P:=fun K=>CInv c L (i+1) (-1) K) ?_ (fun K hK=>Ret.some hK)
    refine Ret.bindE (zl hie) ?_
    refine Ret.ite (fun hd => ?_) (fun hd => ?_)
    · have hd:=beq_iff_eq.1 hd
      refine Ret.some ⟨hK.el,fun n b m h0 hE hp=>hK.has n b m h0 hE ?_⟩
      obtain ⟨s,q1,q2,q3,q4,_⟩:=hE
      by_cases e:n=i
      · subst e
        rw [hie] at q1;cases q1;omega
      · omega
    · have hd:=beq_eq_false_iff_ne.1 hd
      have hday:=hv.day
      have hd2:L[i].day < c.Zat:=by omega
      refine Ret.bind (P:=fun K=>CInv c L (i+1) (-1) K) ?_ (fun K hK=>Ret.some hK)
      refine Ret.iter (fun s:Int×List (Int×Zax)=>(-1≤s.1∧s.1≤(c.Zai.length:Int))∧CInv c L i s.1 s.2) (fun s=>((c.Zai.length:Int)+1 - s.1).toNat) ⟨⟨by simp,by show (-1:Int)≤_;omega⟩,hK⟩ ?_
      rintro ⟨a,K2⟩ ⟨ha,hK2⟩
      simp only at ha hK2 ⊢
      refine Ret.ite (fun hlt => ?_) (fun hge => ?_)
      · have hlt:=of_decide_eq_true hlt
        obtain ⟨est,hvs,_⟩:=jC hc hv ha.1 hlt hd2
        obtain ⟨m,hE⟩:=zgh h hie hd2 ha.1 hlt
        have hE0:=hE
        obtain ⟨s,q1,_,_,_,q5⟩:=hE
        rw [hie] at q1;cases q1
        have hml:=(List.getElem?_eq_some_iff.1 q5).1
        have hto:=(hP _ hvs).1 m hml q5
        have hgo:CInv c L i a K2→(∃ e,zq (m:Int) K2=some e∨m=0)→CInv c L i (a+1) K2:=fun _ hx=>⟨hK2.el,fun n b m' h0 hE' hp=>by
          by_cases e:n=i∧b=a
          · obtain ⟨rfl,rfl⟩:=e
            obtain ⟨s',g1,_,_,_,g5⟩:=hE'
            rw [hie] at g1;cases g1
            have:=JZ h.inv.nd g5 q5
            subst this
            obtain ⟨e,hx | hx⟩:=hx
            · exact ⟨e,hx⟩
            · omega
          · exact hK2.has n b m' h0 hE' (by omega)⟩
        refine Ret.bind (P:=fun K=>CInv c L i (a+1) K) ?_ (fun K hK => ?_)
        · refine Ret.bindE est ?_
          refine Ret.bindE (zbQ hc hvs) ?_
          rw [hto]
          simp only [Option.getD_some]
          refine Ret.bind (P:=fun b:Bool=>b=(!(zq (m:Int) K2).isSome && !decide (m=0))) ?_ ?_
          · refine Ret.ite (fun hk=>Ret.some (by rw [hk];rfl)) (fun hk=>Ret.some ?_)
            rw [hk]
            simp only [Bool.not_false,Bool.true_and]
            congr 1
            by_cases e:m=0
            · subst e;rfl
            · rw [decide_eq_false e];exact beq_eq_false_iff_ne.2 (by omega)
          · rintro b rfl
            refine Ret.ite (fun hb => ?_) (fun hb => ?_)
            · simp only [Bool.and_eq_true,Bool.not_eq_true',decide_eq_false_iff_not,Option.isSome_eq_false_iff,Option.isNone_iff_eq_none] at hb
              refine Ret.some ⟨fun m' e he => ?_,fun n b m' h0 hE' hp => ?_⟩
              · by_cases e2:m'=m
                · subst e2
                  rw [jw] at he
                  cases he
                  refine ⟨by omega,i,rfl,hE0,fun n' b' hn' hE' => ?_⟩
                  obtain ⟨e,he⟩:=hK2.has n' b' m' (by omega) hE' (.inl hn')
                  rw [hb.1] at he;cases he
                · rw [jW _ (by omega)] at he
                  exact hK2.el m' e he
              · by_cases e2:m'=m
                · subst e2;exact ⟨_,jw _ _ _⟩
                · rw [jW _ (by omega)]
                  by_cases e:n=i∧b=a
                  · obtain ⟨rfl,rfl⟩:=e
                    obtain ⟨s',g1,_,_,_,g5⟩:=hE'
                    rw [hie] at g1;cases g1
                    exact absurd (JZ h.inv.nd g5 q5) e2
                  · exact hK2.has n b m' h0 hE' (by omega)
            · refine Ret.some (hgo hK2 ?_)
              cases hg:zq (m:Int) K2 with
              | some e=>exact ⟨e,.inl rfl⟩
              | none=>
                rw [hg] at hb
                simp only [Option.isSome_none,Bool.not_false,Bool.true_and,Bool.not_eq_false',decide_eq_true_eq] at hb
                exact ⟨{from_:=0,step:=0},.inr hb⟩
        · rw [zY (by omega) (by omega)]
          refine Ret.some ⟨⟨⟨by show -1≤a+1;omega,by show a+1≤(c.Zai.length:Int);omega⟩,hK⟩,?_⟩
          show ((c.Zai.length:Int)+1 - (a+1)).toNat < ((c.Zai.length:Int)+1 - a).toNat
          omega
      · have hge:=of_decide_eq_false hge
        refine Ret.some ⟨hK2.el,fun n b m h0 hE hp=>hK2.has n b m h0 hE ?_⟩
        obtain ⟨s,_,_,q3,q4,_⟩:=hE
        by_cases e:n=i
        · exact .inr ⟨e,by omega⟩
        · exact .inl (by omega)
  rintro o ⟨K,rfl,hK⟩
  simp only [Sum.elim_inl]
  refine Ret.some ⟨K,rfl,fun m h0 hm => ?_⟩
  obtain ⟨n0,s,b,g1,g2,g3,g4,g5,g6,_⟩:=h.bfs m _ h0 (List.getElem?_eq_getElem hm)
  have hE:W2 c L n0 b m:=⟨s,g2,g3,g4,g5,by rw [g6];exact List.getElem?_eq_getElem hm⟩
  obtain ⟨e,he⟩:=hK.has n0 b m h0 hE (.inl (by omega))
  obtain ⟨_,n,q1,q2⟩:=hK.el m e he
  refine ⟨e,n,he,q1,?_,q2⟩
  rcases Nat.lt_or_ge n0 n with hlt | hge
  · exact absurd hE (q2.2 n0 b hlt)
  · omega
inductive Dp (c:Zab) (L:List Zac):Nat→Nat→Prop where
  | zero:Dp c L 0 0
  | next {m n d:Nat} {b:Int} (h0:0 < m) (h:zaH c L n b m) (hn:n < m) (t:Dp c L n d):Dp c L m (d+1)
theorem zaI (c:Zab) (s:Zac) (x:Int) (l:List Int):stF c s (x::l)=stF c (qj c s x) l:=rfl
theorem TrOk.cons {s:Zac} {x:Int} {l:List Int} (hd:s.day < c.Zat) (h1 : -1≤x) (h2:x < c.Zai.length) (h:TrOk c Any (qj c s x) l):TrOk c Any s (x::l):=by
  refine ⟨trivial,fun k hk => ?_⟩
  cases k with
  | zero=>exact ⟨hd,h1,h2,trivial⟩
  | succ k=>
    have:=h.step k (by simpa using hk)
    simp only [List.take_succ_cons,zaI,List.getElem_cons_succ]
    exact ⟨this.1,this.2.1,this.2.2.1,trivial⟩
theorem zhM (hc:c.Ok) (h:ReachOk c s0 L) {K:List (Int×Zax)} (hK:W3 c L K) {k:Nat} {q:Zac} (hk:L[k]?=some q) :
    Ret (Qd (some K) (k:Int)) (fun tr=>TrOk c Any s0 tr∧stF c s0 tr=q∧Dp c L k tr.length):=by
  have hlen:=h.inv.len
  have hkl:=(List.getElem?_eq_some_iff.1 hk).1
  unfold Qd
  refine Ret.bind (P:=fun l=>l.length≤1500∧TrOk c Any s0 l.reverse∧stF c s0 l.reverse=q∧Dp c L k l.length) (Ret.iter (fun s:List Int×Int=>∃ (m:Nat) (t:Zac),s.2=(m:Int)∧L[m]?=some t∧TrOk c Any t s.1.reverse∧stF c t s.1.reverse=q∧s.1.length+m≤k∧∀ d,Dp c L m d→Dp c L k (d+s.1.length)) (fun s=>s.2.toNat) ⟨k,q,rfl,hk,.nil trivial,rfl,by simp,fun d hd=>by simpa using hd⟩ ?_) ?_
  · rintro ⟨l,x⟩ ⟨m,t,hx,hm,htr,hst,hle,hdp⟩
    simp only at hx htr hst hle hdp ⊢
    subst hx
    have hml:=(List.getElem?_eq_some_iff.1 hm).1
    unfold Qc
    simp only
    refine Ret.ite (fun h0 => ?_) (fun h0 => ?_)
    · have hm0:0 < m:=by
        rcases Nat.eq_zero_or_pos m with e | e
        · subst e;simp at h0
        · exact e
      obtain ⟨e,n,e1,e2,e3,e4⟩:=hK m hm0 hml
      have hw:jM (some K) (m:Int)=e:=by unfold jM;rw [Option.getD_some,e1];rfl
      rw [hw]
      refine Ret.bindE (v:=l++[e.step]) (by unfold zfm;rw [if_pos];simp;omega) ?_
      have e40:=e4
      obtain ⟨⟨s',g1,g2,g3,g4,g5⟩,_⟩:=e4
      rw [hm] at g5;cases g5
      refine Ret.some ⟨⟨n,s',e2,g1,?_,?_,by simp only [List.length_append,List.length_cons,List.length_nil];omega,fun d hd => ?_⟩,?_⟩
      · simp only [List.reverse_append,List.reverse_cons,List.reverse_nil,List.nil_append,List.singleton_append]
        exact htr.cons g2 g3 g4
      · simp only [List.reverse_append,List.reverse_cons,List.reverse_nil,List.nil_append,List.singleton_append,zaI]
        exact hst
      · have:=hdp (d+1) (.next hm0 e40 e3 hd)
        simpa [Nat.add_assoc,Nat.add_comm 1] using this
      · simp only [e2,Int.toNat_natCast];omega
    · have hm0:m=0:=by
        rcases Nat.eq_zero_or_pos m with e | e
        · exact e
        · have:((m:Int) == 0)=false:=beq_eq_false_iff_ne.2 (by omega)
          rw [this] at h0;cases h0
      subst hm0
      have:=h.at0
      rw [hm] at this;cases this
      exact Ret.some ⟨by omega,htr,hst,by simpa using hdp 0 .zero⟩
  · rintro l ⟨h1,h2,h3,h4⟩
    refine Ret.bindE (zkV l (by omega)) ?_
    refine Ret.bindE (x8 (by simp)) ?_
    exact Ret.some ⟨h2,h3,by simpa using h4⟩
theorem zeP (h:ReachOk c s0 L) {m m' n n':Nat} {b b':Int} (h0:0 < m) (hm:m≤m') (h1:zaH c L n b m) (h2:zaH c L n' b' m'):n≤n':=by
  obtain ⟨q,hq⟩:∃ q,L[m]?=some q:=by obtain ⟨s,_,_,_,_,g⟩:=h1.1;exact ⟨_,g⟩
  obtain ⟨n0,s,a,g1,g2,g3,g4,g5,g6,g7⟩:=h.bfs m q h0 hq
  have hn:n≤n0:=by
    rcases Nat.lt_or_ge n0 n with hlt | hge
    · exact absurd ⟨s,g2,g3,g4,g5,by rw [g6];exact hq⟩ (h1.2 n0 a hlt)
    · exact hge
  rcases Nat.lt_or_ge n' n with hlt | hge
  · obtain ⟨s',k1,k2,k3,k4,k5⟩:=h2.1
    obtain ⟨m'',q1,q2⟩:=g7 n' s' b' (by omega) k1 k2 k3 k4
    have:=JZ h.inv.nd q2 k5
    omega
  · exact hge
theorem Dp.mono (h:ReachOk c s0 L):∀ {m d:Nat},Dp c L m d→∀ {m' d':Nat},m≤m'→Dp c L m' d'→d≤d':=by
  intro m d h1
  induction h1 with
  | zero=>intros;omega
  | @next m n d b h0 hcm hn t ih=>
    intro m' d' hm h2
    cases h2 with
    | zero=>omega
    | @next _ n' d2 b' h0' hcm' hn' t'=>
      have:=ih (zeP h h0 hm hcm hcm') t'
      omega
end
end
section
def npA {α:Type} (l:List α) (p:α→Bool) (j:Nat):Bool:=match l[j]? with | some x=>!p x | none=>true
theorem Jm {α:Type} {l:List α} {p:α→Bool} {j:Nat} (hj:j < l.length):npA l p j=!p l[j]:=by unfold npA;rw [List.getElem?_eq_getElem hj]
theorem Jo {α:Type} (l:List α) (p:α→Bool):decide ((0:Int)≤(match (List.range l.length).find? (fun j=>!(npA l p j)) with | none=>(-1:Int) | some j=>(j:Int)))=l.any p:=by
  cases hf:(List.range l.length).find? (fun j=>!(npA l p j)) with
  | none=>
    have h:=wB hf
    rw [decide_eq_false (by simp)]
    symm
    rw [Bool.eq_false_iff]
    intro ha
    obtain ⟨x,hx,hp⟩:=List.any_eq_true.1 ha
    obtain ⟨j,hj,rfl⟩:=List.getElem_of_mem hx
    have:=h j hj
    rw [Jm hj] at this
    simp [hp] at this
  | some i=>
    obtain ⟨hi,g1,_⟩:=wC hf
    rw [Jm hi] at g1
    simp only [Bool.not_eq_false'] at g1
    rw [decide_eq_true (by simp)]
    symm
    exact List.any_eq_true.2 ⟨_,List.getElem_mem hi,g1⟩
def Zh (i:Nat) (s:Zac):Int:=match s.Zaj[i]? with | some m=>m.Zam | none=>0
def wh (L:List Zac) (i:Nat):Bool := !L.any fun s=>!(Zh i s == 0)
def zgR (L:List Zac) (i:Nat):Bool:=L.any fun s=>Zh i s == 3
def unB (c:Zab) (L:List Zac) (i:Nat):Bool:=match c.Zag[i]? with
  | some k=>k.kind == 3&&(!k.ZaB && !zgR L i)
  | none=>false
section
variable {c:Zab} {s0:Zac} {L:List Zac}
theorem wI {s:Zac} (hv:VS c s) {i:Nat} (hi:i < c.Zag.length):∃ m,s.Zaj[i]?=some m∧ze s.Zaj (i:Int)=some m∧Zh i s=m.Zam:=by
  have:i < s.Zaj.length:=by rw [hv.lm];exact hi
  refine ⟨_,List.getElem?_eq_getElem this,zl (List.getElem?_eq_getElem this),?_⟩
  unfold Zh;rw [List.getElem?_eq_getElem this]
theorem zgi (h:ReachOk c s0 L) {i:Nat} (hi:i < c.Zag.length):yx L (i:Int)=some (wh L i):=by
  have hlen:=h.inv.len
  unfold yx WH WG
  rw [jn (npA L (fun s=>!(Zh i s == 0))) (fun j=>(j:Int)) (by omega) (fun j hj=>by
    obtain ⟨m,_,h2,h3⟩:=wI (h.inv.vs _ (List.getElem_mem hj)) hi
    rw [zl (List.getElem?_eq_getElem hj)]
    simp only [ZaI,WF,h2,Jm hj,h3]
    cases (m.Zam == 0)<;>rfl)]
  have hf:=Jo L (fun s=>!(Zh i s == 0))
  simp only [ZaI]
  cases hq:(List.range L.length).find? (fun j=>!(npA L (fun s=>!(Zh i s == 0)) j)) with
  | none=>rw [hq] at hf;simp only [Sum.elim_inl,ZaI,hf];rfl
  | some j=>rw [hq] at hf;simp only [Sum.elim_inr,ZaI,hf];rfl
theorem zgj (h:ReachOk c s0 L) {i:Nat} (hi:i < c.Zag.length):Q7 L (i:Int)=some (zgR L i):=by
  have hlen:=h.inv.len
  unfold Q7 WJ
  rw [jn (npA L (fun s=>Zh i s == 3)) (fun j=>(j:Int)) (by omega) (fun j hj=>by
    obtain ⟨m,_,h2,h3⟩:=wI (h.inv.vs _ (List.getElem_mem hj)) hi
    rw [zl (List.getElem?_eq_getElem hj)]
    simp only [ZaI,WI,h2,Jm hj,h3]
    cases (m.Zam == 3)<;>rfl)]
  have hf:=Jo L (fun s=>Zh i s == 3)
  simp only [ZaI]
  cases hq:(List.range L.length).find? (fun j=>!(npA L (fun s=>Zh i s == 3) j)) with
  | none=>rw [hq] at hf;simp only [Sum.elim_inl,ZaI,hf];rfl
  | some j=>rw [hq] at hf;simp only [Sum.elim_inr,ZaI,hf];rfl
theorem zjw (h:ReachOk c s0 L) {i:Nat} (hi:i < c.Zag.length):vD c L (i:Int)=some (unB c L i):=by
  unfold vD
  rw [zl (List.getElem?_eq_getElem hi)]
  simp only [ZaI,zgj h hi,unB,List.getElem?_eq_getElem hi]
  cases (c.Zag[i].kind == 3)<;>cases c.Zag[i].ZaB<;>rfl
end
def zcX (c:Zab):Bool:=c.Zai.any fun a=>a.kind == 3
def zaJ (d b:Zan):Bool:=d.kind == 1&&(b.kind == 2&&(d.final&&(b.final&&(!d.ZaB&&(!b.ZaB&&(d.act == b.act&&(d.pause == -1&&(b.pause == -1&&d.ZaE == b.ZaE))))))))
def VF (c:Zab) (i j:Nat):Bool:=match c.Zag[i]?,c.Zag[j]? with
  | some d,some b=>zaJ d b && !zcX c
  | _,_=>false
def clK (k:Zan) (d b:zw):Bool:=(d.Zam == 1||d.Zam == 2)&&(b.Zam == 1&&(b.Zau == d.Zau&&decide ((bif d.Zam == 1 then d.left+k.Zay else d.left)≤b.left)))
def Jp (c:Zab) (s:Zac) (i j:Nat):Bool:=match c.Zag[i]?,s.Zaj[i]?,s.Zaj[j]? with
  | some k,some d,some b=>clK k d b
  | _,_,_=>false
section
variable {c:Zab} {s0:Zac} {L:List Zac}
theorem zhN (ha:c.Zai.length < 4611686018427387904):WL c.Zai=some (zcX c):=by
  unfold WL Y9
  rw [jn (npA c.Zai (fun a=>a.kind == 3)) (fun j=>(j:Int)) (by omega) (fun j hj=>by
    rw [zl (List.getElem?_eq_getElem hj)]
    simp only [ZaI,WK,Jm hj]
    cases (c.Zai[j].kind == 3)<;>rfl)]
  have hf:=Jo c.Zai (fun a=>a.kind == 3)
  simp only [ZaI]
  cases hq:(List.range c.Zai.length).find? (fun j=>!(npA c.Zai (fun a=>a.kind == 3) j)) with
  | none=>rw [hq] at hf;simp only [Sum.elim_inl,ZaI,hf];rfl
  | some j=>rw [hq] at hf;simp only [Sum.elim_inr,ZaI,hf];rfl
theorem zhO (ha:c.Zai.length < 4611686018427387904) {i j:Nat} (hi:i < c.Zag.length) (hj:j < c.Zag.length):xL c (i:Int) (j:Int)=some (VF c i j):=by
  unfold xL
  rw [zl (List.getElem?_eq_getElem hi),zl (List.getElem?_eq_getElem hj)]
  simp only [ZaI,zhN ha,VF,zaJ,List.getElem?_eq_getElem hi,List.getElem?_eq_getElem hj]
  cases (c.Zag[i].kind == 1)
  · rfl
  cases (c.Zag[j].kind == 2)
  · rfl
  cases c.Zag[i].final
  · rfl
  cases c.Zag[j].final
  · rfl
  cases c.Zag[i].ZaB
  rotate_left
  · rfl
  cases c.Zag[j].ZaB
  rotate_left
  · rfl
  cases (c.Zag[i].act == c.Zag[j].act)
  · rfl
  cases (c.Zag[i].pause == -1)
  · rfl
  cases (c.Zag[j].pause == -1)
  · rfl
  cases (c.Zag[i].ZaE == c.Zag[j].ZaE)<;>rfl
theorem zhP (hc:c.Ok) {s:Zac} (hv:VS c s) {i:Nat} {k:Zan} {m:zw} (hk:c.Zag[i]?=some k) (hm:s.Zaj[i]?=some m):IntKind.i64.wrap (m.left+k.Zay)=m.left+k.Zay:=by
  have ho:=hc.off.lt (by omega:0 < 8)
  have kv:=wg ho hv.cv hk
  have sm:=qr ho hv.cv
  have:=zeB kv (by have:=sm.Zao;omega) (hv.mrk i k m hk hm)
  have h2:=kv.Zay
  exact zY (by omega) (by omega)
theorem zjx (hc:c.Ok) {s:Zac} (hv:VS c s) {i j:Nat} (hi:i < c.Zag.length) (hj:j < c.Zag.length):vE c s (i:Int) (j:Int)=some (Jp c s i j):=by
  obtain ⟨d,d1,d2,_⟩:=wI hv hi
  obtain ⟨b,b1,b2,_⟩:=wI hv hj
  have hk:=List.getElem?_eq_getElem hi
  have hw:=zhP hc hv hk d1
  unfold vE
  simp only [d2,b2,zl hk,ZaI,hw,Jp,hk,d1,b1,clK]
  by_cases e1:d.Zam=1
  · simp only [e1,beq_self_eq_true,Bool.true_or,Bool.true_and,cond_true,ZaI,Sum.elim_inl]
    cases (b.Zam == 1)
    · rfl
    cases (b.Zau == d.Zau)<;>rfl
  · by_cases e2:d.Zam=2
    · simp only [e2]
      show _=some (true&&_)
      simp only [Bool.true_and]
      cases (b.Zam == 1)
      · rfl
      cases (b.Zau == d.Zau)<;>rfl
    · rw [beq_eq_false_iff_ne.2 e1,beq_eq_false_iff_ne.2 e2]
      rfl
end
end
section
structure ClF (c:Zab) (s0:Zac) (L:List Zac) (a b:Nat) (f:Zak):Prop where
  kind:f.kind=4
  Zaa:f.Zaa = -1
  clause:f.clause=(a:Int)
  other:f.other=(b:Int)
  ha:a < c.Zag.length
  hb:b < c.Zag.length
  opp:VF c a b=true
  at_:∃ (k:Nat) (q:Zac),L[k]?=some q∧Jp c q a b=true∧(∀ (k':Nat) (q':Zac),k' < k→L[k']?=some q'→Jp c q' a b=false)∧TrOk c Any s0 f.Zaz∧stF c s0 f.Zaz=q∧Dp c L k f.Zaz.length
def Bef (a b i j:Nat):Prop:=a < i∨(a=i∧b < j)
structure ClashL (c:Zab) (s0:Zac) (L:List Zac) (i j:Nat) (C:List Zak):Prop where
  el:∀ f∈C,∃ a b,Bef a b i j∧ClF c s0 L a b f
  has:∀ a b,Bef a b i j→a < c.Zag.length→b < c.Zag.length→VF c a b=true→(∃ q∈L,Jp c q a b=true)→∃ f∈C,f.clause=(a:Int)∧f.other=(b:Int)
  ord:C.Pairwise fun f g=>f.clause < g.clause∨(f.clause=g.clause∧f.other < g.other)
  len:C.length≤i*c.Zag.length+j
def CmO (c:Zab) (L:List Zac) (o:Option (List (Int×Zax))):Prop:=o=none∨∃ K,o=some K∧W3 c L K
section
variable {c:Zab} {s0:Zac} {L:List Zac}
theorem ClashL.skip {i j:Nat} {C:List Zak} (h:ClashL c s0 L i j C) (hn:¬ (VF c i j=true∧∃ q∈L,Jp c q i j=true)):ClashL c s0 L i (j+1) C where
  el:=fun f hf=>by
    obtain ⟨a,b,h1,h2⟩:=h.el f hf
    exact ⟨a,b,by unfold Bef at *; omega,h2⟩
  has:=fun a b h1 h2 h3 h4 h5=>by
    by_cases e:a=i∧b=j
    · obtain ⟨rfl,rfl⟩:=e
      exact absurd ⟨h4,h5⟩ hn
    · exact h.has a b (by unfold Bef at *; omega) h2 h3 h4 h5
  ord:=h.ord
  len:=by have:=h.len;omega
theorem ClashL.push {i j:Nat} {C:List Zak} {f:Zak} (h:ClashL c s0 L i j C) (hf:ClF c s0 L i j f):ClashL c s0 L i (j+1) (C++[f]) where
  el:=fun g hg=>by
    rcases List.mem_append.1 hg with hg | hg
    · obtain ⟨a,b,h1,h2⟩:=h.el g hg
      exact ⟨a,b,by unfold Bef at *; omega,h2⟩
    · rw [List.mem_singleton.1 hg]
      exact ⟨i,j,.inr ⟨rfl,by omega⟩,hf⟩
  has:=fun a b h1 h2 h3 h4 h5=>by
    by_cases e:a=i∧b=j
    · obtain ⟨rfl,rfl⟩:=e
      exact ⟨f,by simp,hf.clause,hf.other⟩
    · obtain ⟨g,h6,h7⟩:=h.has a b (by unfold Bef at *; omega) h2 h3 h4 h5
      exact ⟨g,by simp [h6],h7⟩
  ord:=List.pairwise_append.2 ⟨h.ord,by simp,fun g hg x hx=>by
    rw [List.mem_singleton.1 hx]
    obtain ⟨a,b,h1,h2⟩:=h.el g hg
    rw [h2.clause,h2.other,hf.clause,hf.other]
    unfold Bef at h1
    omega⟩
  len:=by have:=h.len;simp;omega
theorem ClashL.row {i:Nat} {C:List Zak} (h:ClashL c s0 L i c.Zag.length C):ClashL c s0 L (i+1) 0 C where
  el:=fun f hf=>by
    obtain ⟨a,b,h1,h2⟩:=h.el f hf
    exact ⟨a,b,by unfold Bef at *; omega,h2⟩
  has:=fun a b h1 h2 h3 h4 h5=>h.has a b (by unfold Bef at *; omega) h2 h3 h4 h5
  ord:=h.ord
  len:=by have:=h.len;rw [Nat.succ_mul];omega
theorem zbl (hc:c.Ok) (h:ReachOk c s0 L) (hv0:VS c s0):Ret (wF c L) (ClashL c s0 L c.Zag.length 0):=by
  have ho:=hc.off.lt (by omega:0 < 8)
  have sm:=qr ho hv0.cv
  have s2:=sm.Zai
  have s3:=sm.Zag
  have hlen:=h.inv.len
  have hn:c.Zag.length≤400:=by omega
  unfold wF
  refine Ret.bind (P:=fun o:(List Zak×Option (List (Int×Zax))) ⊕ Unit=>∃ C o',o=.inl (C,o')∧ClashL c s0 L c.Zag.length 0 C) (Ret.forL (fun i s=>ClashL c s0 L i 0 s.1∧CmO c L s.2) (by omega) ⟨⟨fun f hf=>by simp at hf,fun a b hb=>by unfold Bef at hb;omega,by simp,by simp⟩,.inl rfl⟩ (fun i s hi hs => ?_) (fun s hs=>⟨s.1,s.2,rfl,hs.1⟩)) ?_
  · obtain ⟨C,o⟩:=s
    obtain ⟨hC,hO⟩:=hs
    simp only at hC hO ⊢
    refine Ret.bind (P:=fun o:(List Zak×Option (List (Int×Zax))) ⊕ Unit=>∃ C o',o=.inl (C,o')∧ClashL c s0 L i c.Zag.length C∧CmO c L o') (Ret.forL (fun j s=>ClashL c s0 L i j s.1∧CmO c L s.2) (by omega) ⟨hC,hO⟩ (fun j s hj hs => ?_) (fun s hs=>⟨s.1,s.2,rfl,hs⟩)) ?_
    · obtain ⟨C,o⟩:=s
      obtain ⟨hC,hO⟩:=hs
      simp only at hC hO ⊢
      have hCl:=hC.len
      have hbig:i*c.Zag.length≤400*400:=Nat.mul_le_mul (by omega) hn
      refine Ret.bind (P:=fun v:List Zak×Option (List (Int×Zax))=>ClashL c s0 L i (j+1) v.1∧CmO c L v.2) ?_ (fun v hv=>Ret.some (show ClashL c s0 L i (j+1) v.1∧CmO c L v.2 from hv))
      refine Ret.bindE (zhO (by omega) hi hj) ?_
      refine Ret.ite (fun hopp => ?_) (fun hopp=>Ret.some ⟨hC.skip (by rw [hopp];simp),hO⟩)
      refine Ret.bind (P:=fun v:(List Zak×Option (List (Int×Zax))) ⊕ (List Zak×Option (List (Int×Zax)))=>(∃ C o,v=.inl (C,o)∧ClashL c s0 L i (j+1) C∧CmO c L o)∨(∃ C o,v=.inr (C,o)∧ClashL c s0 L i (j+1) C∧CmO c L o)) (Ret.forL (fun k s=>s=(C,o)∧∀ (k':Nat) (q:Zac),k' < k→L[k']?=some q→Jp c q i j=false) (by omega) ⟨rfl,fun k' q hk'=>by omega⟩ (fun k s hk hs => ?_) (fun s hs => ?_)) ?_
      · obtain ⟨rfl,hno⟩:=hs
        have hkk:=List.getElem?_eq_getElem hk
        have hvk:=h.inv.vs _ (List.getElem_mem hk)
        refine Ret.bindE (zl hkk) ?_
        refine Ret.bindE (zjx hc hvk hi hj) ?_
        refine Ret.ite (fun hcl => ?_) (fun hcl=>Ret.some ⟨rfl,fun k' q hk' hq => ?_⟩)
        · refine Ret.bind (P:=fun v=>∃ K,v=some K∧W3 c L K) ?_ ?_
          · refine Ret.ite (fun hs => ?_) (fun hs => ?_)
            · rcases hO with e | ⟨K,e,hK⟩
              · rw [e] at hs;cases hs
              · exact Ret.some ⟨K,e,hK⟩
            · exact Ret.bind (zeO hc h) fun r hr=>Ret.some hr
          · rintro v ⟨K,rfl,hK⟩
            refine Ret.bind (zhM hc h hK hkk) ?_
            rintro tr ⟨t1,t2,t3⟩
            refine Ret.bindE (x:=jb 4 (-1) (i:Int) (j:Int) tr) rfl ?_
            refine Ret.bindE (jB (by simp;omega)) ?_
            refine Ret.some (.inr ⟨_,_,rfl,hC.push ⟨rfl,rfl,rfl,rfl,hi,hj,hopp,k,_,hkk,hcl,fun k' q' h1 h2=>hno k' q' h1 h2,t1,t2,t3⟩,.inr ⟨K,rfl,hK⟩⟩)
        · by_cases e:k'=k
          · subst e
            rw [hkk] at hq;cases hq
            exact hcl
          · exact hno k' q (by omega) hq
      · obtain ⟨rfl,hno⟩:=hs
        refine .inl ⟨C,o,rfl,hC.skip ?_,hO⟩
        rintro ⟨_,q,hq,hcl⟩
        obtain ⟨k,hk,e⟩:=List.getElem_of_mem hq
        rw [hno k q hk (by rw [List.getElem?_eq_getElem hk,e])] at hcl
        cases hcl
      · rintro v (⟨C',o',rfl,h1,h2⟩ | ⟨C',o',rfl,h1,h2⟩)
        · exact Ret.some ⟨h1,h2⟩
        · exact Ret.some ⟨h1,h2⟩
    · rintro v ⟨C',o',rfl,h1,h2⟩
      exact Ret.some ⟨h1.row,h2⟩
  · rintro v ⟨C',o',rfl,h1⟩
    exact Ret.some h1
end
end
section
section
variable {c:Zab} {Zaa:Int} {p:Zah} {a:ZaF}
theorem zgk (A:ArOk c Zaa p a) {r:Nat→Int} (hr:yq (gm c a) r) {i:Nat} (hi:i < a.Zaw.length) {T:List Zar} (hT:a.moves[i]?=some T) (h0:0 < r i) :
    T≠[]∧(a.Zaw[i].own=true→∀ m∈T,0≤r m.to.toNat∧r m.to.toNat≤r i - 1)∧(a.Zaw[i].own=false→∃ m∈T,0≤r m.to.toNat∧r m.to.toNat≤r i - 1):=by
  obtain ⟨k,hk⟩:∃ k:Nat,r i=((k+1:Nat):Int):=⟨(r i).toNat - 1,by omega⟩
  have hA:=((hr i hi).2 (k+1)).1 ⟨by omega,by omega⟩
  have hlo:(gm c a).lost i≠true:=fun e=>by have:=(Jl hr (i:=i) hi).2 e;omega
  have hs:=A.succ hi hT
  have hle:∀ m∈T,Attr (gm c a) k m.to.toNat→0≤r m.to.toNat∧r m.to.toNat≤r i - 1:=fun m hm ha=>by
    have ht:=A.to hi hT hm
    have hti:m.to.toNat < (gm c a).n:=by show m.to.toNat < a.Zaw.length;omega
    have h1:=((hr _ hti).2 k).2 ha
    have h2:=(hr _ hti).1
    omega
  rcases hA with h | ⟨h1,h2⟩ | ⟨h1,t,h2,h3⟩
  · exact absurd h hlo
  · rw [A.own hi] at h1
    refine ⟨A.ne hi hT h1,fun _ m hm=>hle m hm (h2 _ (by rw [hs];exact List.mem_map.2 ⟨m,hm,rfl⟩)),fun e=>by rw [h1] at e;cases e⟩
  · rw [A.own hi] at h1
    rw [hs] at h2
    obtain ⟨m,hm,rfl⟩:=List.mem_map.1 h2
    exact ⟨fun e=>(by rw [e] at hm;cases hm),fun e=>(by rw [h1] at e;cases e),fun _=>⟨m,hm,hle m hm h3⟩⟩
end
end
section
structure PlayT (c:Zab) (Zaa:Int) (s0:Zac) (l:List Int):Prop where
  tr:TrOk c Any s0 l
  oth:∀ (k:Nat) (hk:k < l.length),(l[k] = -1∨JY c (stF c s0 (l.take k)) l[k]≠Zaa)∧jR c (stF c s0 (l.take k)) Zaa=false
  lost:jR c (stF c s0 l) Zaa=true
  len:l.length≤1500
section
variable {c:Zab} {Zaa:Int} {s0:Zac} {a:ZaF}
theorem zeQ (A:ArOk c Zaa (atO s0) a) {r:List Int} (hl:r.length=a.Zaw.length) {k:Nat} (hk:k < a.Zaw.length) {T:List Zar} (hT:a.moves[k]?=some T) (hTl:T.length≤62)
    (hE:∃ m∈T,0≤at_ r m.to.toNat∧at_ r m.to.toNat≤at_ r k - 1):Ret (Zy T r (k:Int)) (fun n=>∃ j:Nat,n=(j:Int)∧∃ hj:j < T.length,0≤at_ r T[j].to.toNat∧at_ r T[j].to.toNat≤at_ r k - 1):=by
  unfold Zy
  have idxr:∀ k:Nat,k < a.Zaw.length→ze r (k:Int)=some (at_ r k):=fun k hk=>zl (xS (by omega))
  have hrT:∀ (j:Nat) (hj:j < T.length),ze r T[j].to=some (at_ r T[j].to.toNat):=fun j hj=>by
    have ht:=A.to hk hT (List.getElem_mem hj)
    have:=idxr T[j].to.toNat (by omega)
    rw [Int.toNat_of_nonneg ht.1] at this
    exact this
  rw [jn (fun j=>!(match T[j]? with | some m=>decide (0≤at_ r m.to.toNat)&&decide (at_ r m.to.toNat < at_ r k) | none=>false)) (fun j=>(j:Int)) (by omega) (fun j hj=>by
    rw [zl (List.getElem?_eq_getElem hj)]
    simp only [ZaI,WE,hrT j hj,idxr k hk,List.getElem?_eq_getElem hj]
    cases h1:decide (0≤at_ r T[j].to.toNat)<;>cases h2:decide (at_ r T[j].to.toNat < at_ r k)<;>rfl)]
  simp only [ZaI]
  obtain ⟨m,hm,h1,h2⟩:=hE
  obtain ⟨j,hj,rfl⟩:=List.getElem_of_mem hm
  cases hf:(List.range T.length).find? (fun j=>!!(match T[j]? with | some m=>decide (0≤at_ r m.to.toNat)&&decide (at_ r m.to.toNat < at_ r k) | none=>false)) with
  | none=>
    have:=wB hf j hj
    rw [List.getElem?_eq_getElem hj] at this
    simp only [Bool.not_eq_true',Bool.and_eq_false_iff,decide_eq_false_iff_not] at this
    omega
  | some i=>
    obtain ⟨hi,g1,_⟩:=wC hf
    rw [List.getElem?_eq_getElem hi] at g1
    simp only [Bool.not_eq_false',Bool.and_eq_true,decide_eq_true_eq] at g1
    exact Ret.some ⟨i,rfl,hi,g1.1,by omega⟩
theorem zcY {q:Zah} {T:List Zar} (ho:q.own=true) (h:T.map (·.step)=zE c Zaa q):∃ h0:0 < T.length,T[0].step = -2:=by
  have e:zE c Zaa q = -2::(bif decide (c.Zat≤q.state.day) then [] else (bif q.own then [] else [-1])++jg c Zaa q c.Zai.length):=by
    unfold zE;rw [ho];rfl
  rw [e] at h
  cases T with
  | nil=>cases h
  | cons t T=>
    simp only [List.map_cons,List.cons.injEq] at h
    exact ⟨by simp,h.1⟩
theorem zgl (hc:c.Ok) (A:ArOk c Zaa (atO s0) a) {r:List Int} (hl:r.length=a.Zaw.length) (hr:yq (gm c a) (at_ r)) (hbd:∀ i,i < a.Zaw.length→at_ r i≤1500) (h0:0≤at_ r 0) :
    Ret (Zz a r) (PlayT c Zaa s0):=by
  have hn:a.Zaw.length≤1500:=A.F.inv.len
  have hm:=A.F.len
  have hpos:=A.pos
  have hfst:=A.F.first
  have idxr:∀ k:Nat,k < a.Zaw.length→ze r (k:Int)=some (at_ r k):=fun k hk=>zl (xS (by omega))
  unfold Zz
  refine Ret.bind (P:=PlayT c Zaa s0) ?_ (fun v hv=>Ret.some hv)
  refine Ret.bind (P:=PlayT c Zaa s0) ?_ (fun v hv=>Ret.some hv)
  refine Ret.iter (fun s:List Int×Int=>∃ (k:Nat) (hk:k < a.Zaw.length),s.2=(k:Int)∧0≤at_ r k∧a.Zaw[k].state=stF c s0 s.1∧TrOk c Any s0 s.1 ∧
    (∀ (k:Nat) (hk:k < s.1.length),(s.1[k] = -1∨JY c (stF c s0 (s.1.take k)) s.1[k]≠Zaa)∧jR c (stF c s0 (s.1.take k)) Zaa=false)∧(s.1.length:Int)+at_ r k≤1500) (fun s=>(at_ r s.2.toNat).toNat) ?_ ?_
  · refine ⟨0,hpos,rfl,h0,?_,.nil trivial,fun k hk=>by simp at hk,by have:=hbd 0 hpos;simp;omega⟩
    rw [List.getElem?_eq_getElem hpos] at hfst
    rw [Option.some.inj hfst];rfl
  rintro ⟨l,i⟩ ⟨k,hk,hi,hrk,hst,htr,hoth,hlen⟩
  simp only at hi hst htr hoth hlen ⊢
  subst hi
  refine Ret.bindE (idxr k hk) ?_
  have hlk:=A.lost hk
  rw [hst] at hlk
  refine Ret.ite (fun h => ?_) (fun h => ?_)
  · have hp:0 < at_ r k:=of_decide_eq_true h
    have hnl:jR c (stF c s0 l) Zaa=false:=by
      rw [←hlk]
      cases e:(gm c a).lost k with
      | false=>rfl
      | true=>have:=(Jl hr (i:=k) hk).2 e;omega
    obtain ⟨T,hT,hst2,_⟩:=A.mv hk
    have hTl:=A.len hc hk hT
    obtain ⟨hne,hO,hE⟩:=zgk A hr hk hT hp
    refine Ret.bindE (zl (List.getElem?_eq_getElem hk)) ?_
    refine Ret.ite (fun ho => ?_) (fun ho => ?_)
    · refine Ret.bindE (zl hT) ?_
      obtain ⟨hT0,hs2⟩:=zcY ho hst2
      refine Ret.bindE (v:=T[0]) (zl (i:=0) (List.getElem?_eq_getElem hT0)) ?_
      have hmem:=List.getElem_mem hT0
      obtain ⟨_,t2,t3,t4⟩:=A.tgt hk hT hmem
      obtain ⟨g1,g2⟩:=hO ho _ hmem
      refine Ret.some ⟨⟨T[0].to.toNat,t3,(Int.toNat_of_nonneg t2).symm,g1,?_,htr,hoth,by simp only;omega⟩,?_⟩
      · rw [t4,hs2,zbj];exact hst
      · simp only [Int.toNat_natCast];omega
    · refine Ret.bindE (zl hT) ?_
      refine Ret.bind (zeQ A hl hk hT hTl (hE ho)) ?_
      rintro n ⟨j,rfl,hj,g1,g2⟩
      refine Ret.bindE (zl hT) ?_
      refine Ret.bindE (zl (List.getElem?_eq_getElem hj)) ?_
      have hmem:=List.getElem_mem hj
      obtain ⟨t1,t2,t3,t4⟩:=A.tgt hk hT hmem
      refine Ret.bindE (jB (by simp;omega)) ?_
      have hmv:T[j].step ≠ -2 ∧ -1≤T[j].step∧T[j].step < c.Zai.length∧a.Zaw[k].state.day < c.Zat∧(T[j].step = -1∨JY c a.Zaw[k].state T[j].step≠Zaa):=by
        rcases wH.1 t1 with ⟨e,_⟩ | ⟨hd,_,e⟩ | ⟨hd,i,hi,hmb,e⟩
        · rw [ho] at e;cases e
        · rw [e];exact ⟨by omega,by omega,by omega,hd,.inl rfl⟩
        · rw [e]
          refine ⟨by omega,by omega,by omega,hd,.inr ?_⟩
          unfold mvB at hmb
          rw [List.getElem?_eq_getElem hi] at hmb
          simp only [ho,Bool.and_eq_true,beq_iff_eq] at hmb
          unfold JY
          rw [if_neg (by omega),Int.toNat_natCast,List.getElem?_eq_getElem hi]
          exact beq_eq_false_iff_ne.1 hmb.1
      obtain ⟨m1,m2,m3,m4,m5⟩:=hmv
      have hvs:=A.F.inv.vs _ (List.getElem_mem hk)
      rw [hst] at m4 m5
      refine Ret.some ⟨⟨T[j].to.toNat,t3,(Int.toNat_of_nonneg t2).symm,g1,?_,htr.snoc m4 m2 m3 trivial,fun q hq => ?_,by simp only [List.length_append,List.length_cons,List.length_nil];omega⟩,?_⟩
      · rw [t4,zbk c _ m2,Qm]
        simp only [hst]
      · rw [List.length_append] at hq
        simp only [List.length_cons,List.length_nil] at hq
        by_cases e:q=l.length
        · subst e
          have e1:(l++[T[j].step]).take l.length=l:=by simp
          rw [e1]
          simp only [List.getElem_append_right (Nat.le_refl _),Nat.sub_self,List.getElem_cons_zero]
          exact ⟨m5,hnl⟩
        · have hq2:q < l.length:=by omega
          rw [List.take_append_of_le_length (by omega),List.getElem_append_left hq2]
          exact hoth q hq2
      · simp only [Int.toNat_natCast];omega
  · have hz:at_ r k=0:=by have:=of_decide_eq_false h;omega
    exact Ret.some ⟨htr,hoth,by rw [←hlk];exact (Jl hr (i:=k) hk).1 hz,by omega⟩
end
end
section
structure ForcedL (c:Zab) (s0:Zac) (i:Nat) (F:List Zak):Prop where
  el:∀ f∈F,f.kind=1∧f.clause = -1∧f.other = -1∧∃ p:Nat,p < i∧f.Zaa=(p:Int)∧xT c (p:Int) (atO s0)=false∧PlayT c (p:Int) s0 f.Zaz
  has:∀ p:Nat,p < i→xT c (p:Int) (atO s0)=false→∃ f∈F,f.Zaa=(p:Int)
  ord:F.Pairwise fun f g=>f.Zaa < g.Zaa
  len:F.length≤i
def jS (i:Nat):Zak:={kind:=2,Zaa := -1,clause:=(i:Int),other := -1,Zaz:=[]}
def wi (i:Nat):Zak:={kind:=3,Zaa := -1,clause:=(i:Int),other := -1,Zaz:=[]}
def xU (L:List Zac) (n:Nat):List Zak:=((List.range n).filter (wh L)).map jS
def wj (c:Zab) (L:List Zac) (n:Nat):List Zak:=((List.range n).filter fun i=>!wh L i&&unB c L i).map wi
def FindOk (c:Zab) (s0:Zac) (L:List Zac) (l:List Zak):Prop:=∃ F C,l=F++xU L c.Zag.length++wj c L c.Zag.length++C∧ForcedL c s0 c.Zao.toNat F∧ClashL c s0 L c.Zag.length 0 C
theorem Jq (L:List Zac) (n:Nat):(xU L n).length≤n:=by
  unfold xU;rw [List.length_map]
  exact Nat.le_trans (List.length_filter_le _ _) (by simp)
theorem Jr (c:Zab) (L:List Zac) (n:Nat):(wj c L n).length≤n:=by
  unfold wj;rw [List.length_map]
  exact Nat.le_trans (List.length_filter_le _ _) (by simp)
theorem zcZ (L:List Zac) (n:Nat):xU L (n+1)=xU L n++(bif wh L n then [jS n] else []):=by
  unfold xU;rw [List.range_succ,List.filter_append,List.map_append]
  cases h:wh L n<;>simp [h]
theorem zc0 (c:Zab) (L:List Zac) (n:Nat):wj c L (n+1)=wj c L n++(bif !wh L n&&unB c L n then [wi n] else []):=by
  unfold wj;rw [List.range_succ,List.filter_append,List.map_append]
  cases h:(!wh L n&&unB c L n)<;>simp [h]
section
variable {c:Zab} {s0:Zac} {L:List Zac}
theorem ForcedL.skip {i:Nat} {F:List Zak} (h:ForcedL c s0 i F) (hn:xT c (i:Int) (atO s0)=true):ForcedL c s0 (i+1) F where
  el:=fun f hf=>by
    obtain ⟨h1,h2,h3,p,h4,h5⟩:=h.el f hf
    exact ⟨h1,h2,h3,p,by omega,h5⟩
  has:=fun p hp hs=>by
    by_cases e:p=i
    · subst e;rw [hn] at hs;cases hs
    · exact h.has p (by omega) hs
  ord:=h.ord
  len:=by have:=h.len;omega
theorem ForcedL.push {i:Nat} {F:List Zak} (h:ForcedL c s0 i F) (hn:xT c (i:Int) (atO s0)=false) {tr:List Int} (ht:PlayT c (i:Int) s0 tr):ForcedL c s0 (i+1) (F++[{kind:=1,Zaa:=(i:Int),clause := -1,other := -1,Zaz:=tr}]) where
  el:=fun f hf=>by
    rcases List.mem_append.1 hf with hf | hf
    · obtain ⟨h1,h2,h3,p,h4,h5⟩:=h.el f hf
      exact ⟨h1,h2,h3,p,by omega,h5⟩
    · rw [List.mem_singleton.1 hf]
      exact ⟨rfl,rfl,rfl,i,by omega,rfl,hn,ht⟩
  has:=fun p hp hs=>by
    by_cases e:p=i
    · subst e;exact ⟨_,List.mem_append.2 (.inr (List.mem_singleton.2 rfl)),rfl⟩
    · obtain ⟨f,h1,h2⟩:=h.has p (by omega) hs
      exact ⟨f,by simp [h1],h2⟩
  ord:=List.pairwise_append.2 ⟨h.ord,by simp,fun f hf g hg=>by
    rw [List.mem_singleton.1 hg]
    obtain ⟨_,_,_,p,h4,h5,_⟩:=h.el f hf
    rw [h5];simp only;omega⟩
  len:=by have:=h.len;simp;omega
theorem zc1 {s1:Zac} (h1:qA c=some (s0,0)) (h2:qA c=some (s1,0)):s1=s0:=by
  rw [h1] at h2;cases h2;rfl
theorem zgm (hc:c.Ok):Ret (jU c) (fun r=>(r.2≠0∧r.1=[])∨(r.2=0∧∃ s0 L,qA c=some (s0,0)∧VS c s0∧xr c=some (L,0)∧ReachOk c s0 L∧(∀ p:Nat,(p:Int) < c.Zao→∃ a,ju c (p:Int)=some (a,0)∧ArOk c (p:Int) (atO s0) a)∧FindOk c s0 L r.1)):=by
  by_cases hv:(qe c).1=0
  case neg=>
    have hs:=Yy hc hv
    have hr:xr c=some ([],1):=by unfold xr;rw [hs];rfl
    unfold jU
    refine Ret.bindE hr ?_
    exact Ret.some (.inl ⟨by simp,rfl⟩)
  obtain ⟨⟨s0,e0⟩,hst,h0,hvs⟩:=Yz hc hv
  simp only at h0 hvs
  subst h0
  have ho:=hc.off.lt (by omega:0 < 8)
  have sm:=qr ho hv
  have s1:=sm.Zao
  have s2:=sm.Zai
  have s3:=sm.Zag
  obtain ⟨⟨L,e⟩,hr,hR⟩:=zeE hc hst hvs
  unfold jU
  refine Ret.bindE hr ?_
  simp only at hR
  rcases hR with ⟨he,h⟩ | ⟨he,hL⟩
  case inr=>
    rw [show (((L,e):List Zac×Int).2 == 0)=false from beq_eq_false_iff_ne.2 he]
    exact Ret.some (.inl ⟨he,rfl⟩)
  subst he
  refine Ret.ite (fun _ => ?_) (fun h=>by cases h)
  obtain ⟨np,hnp⟩:∃ np:Nat,c.Zao=(np:Int):=⟨c.Zao.toNat,by omega⟩
  have hlen:=h.inv.len
  refine Ret.bind (P:=fun o:List Zak ⊕ Int=>(∃ F,o=.inl F∧ForcedL c s0 np F∧∀ p:Nat,p < np→∃ a,ju c (p:Int)=some (a,0)∧ArOk c (p:Int) (atO s0) a)∨(∃ e,o=.inr e∧e≠0)) ?_ ?_
  · rw [hnp]
    refine Ret.forL (fun i F=>ForcedL c s0 i F∧∀ p:Nat,p < i→∃ a,ju c (p:Int)=some (a,0)∧ArOk c (p:Int) (atO s0) a) (by omega) ⟨⟨fun f hf=>by simp at hf,fun p hp=>by omega,by simp,by simp⟩,fun p hp=>by omega⟩ (fun i F hi hF => ?_) (fun F hF=>.inl ⟨F,rfl,hF⟩)
    obtain ⟨hF,hBs⟩:=hF
    have hFl:=hF.len
    obtain ⟨⟨a,e⟩,hb,hB⟩:=zhK hc (i:Int)
    refine Ret.bind (P:=fun o:List Zak ⊕ Int=>(∃ F',o=.inl F'∧ForcedL c s0 (i+1) F'∧e=0∧ArOk c (i:Int) (atO s0) a)∨(∃ e,o=.inr e∧e≠0)) ?_ ?_
    · refine Ret.bindE hb ?_
      rcases hB with ⟨he,ha⟩ | ⟨he,s1',hst',hv1,A⟩
      · simp only at he
        rw [show (((a,e):ZaF×Int).2 == 0)=false from beq_eq_false_iff_ne.2 he]
        exact Ret.some (.inr ⟨e,rfl,he⟩)
      · simp only at he A
        subst he
        have:=zc1 hst hst'
        subst this
        refine Ret.ite (fun _ => ?_) (fun h=>by cases h)
        obtain ⟨r,hrr,hl,hro,hbd⟩:=zeJ hc A
        refine Ret.bindE hrr ?_
        have hl:r.length=a.Zaw.length:=hl
        have hpos:=A.pos
        refine Ret.bindE (v:=at_ r 0) (zl (i:=0) (xS (by omega))) ?_
        have hfst:=A.F.first
        rw [List.getElem?_eq_getElem hpos] at hfst
        have hp0:a.Zaw[0]=atO s1':=Option.some.inj hfst
        have hrp:=(zjv A hro hpos).safe
        rw [hp0] at hrp
        refine Ret.ite (fun hd => ?_) (fun hd => ?_)
        · have hd:=of_decide_eq_true hd
          refine Ret.bind (zgl hc A hl hro hbd hd) ?_
          intro tr htr
          refine Ret.bindE (x:=jb 1 (i:Int) (-1) (-1) tr) rfl ?_
          refine Ret.bindE (jB (by simp;omega)) ?_
          have hns:xT c (i:Int) (atO s1')=false:=by
            cases hq:xT c (i:Int) (atO s1') with
            | false=>rfl
            | true=>have:=hrp.2 (YA.1 hq);omega
          exact Ret.some (.inl ⟨_,rfl,hF.push hns htr,rfl,A⟩)
        · have hd:=of_decide_eq_false hd
          have:=(hro 0 hpos).1
          have hsf:xT c (i:Int) (atO s1')=true:=YA.2 (hrp.1 (by omega))
          exact Ret.some (.inl ⟨_,rfl,hF.skip hsf,rfl,A⟩)
    · rintro o (⟨F',rfl,h1,rfl,h2⟩ | ⟨e',rfl,he'⟩)
      · refine Ret.some ⟨h1,fun p hp => ?_⟩
        by_cases e:p=i
        · subst e;exact ⟨a,hb,h2⟩
        · exact hBs p (by omega)
      · exact Ret.some (.inr ⟨e',rfl,he'⟩)
  rintro o (⟨F,rfl,hF,hBs⟩ | ⟨e,rfl,he⟩)
  case inr=>exact Ret.some (.inl ⟨he,rfl⟩)
  simp only [Sum.elim_inl]
  have hFl:=hF.len
  refine Ret.bind (P:=fun o:(List Zak×List Zak) ⊕ Unit=>o=.inl (F++xU L c.Zag.length,wj c L c.Zag.length)) (Ret.forL (fun i s=>s=(F++xU L i,wj c L i)) (by omega) (by simp [xU,wj]) (fun i s hi hs => ?_) (fun s hs=>by rw [hs])) ?_
  · subst hs
    have l1:=Jq L i
    have l2:=Jr c L i
    refine Ret.bind (P:=fun s=>s=(F++xU L (i+1),wj c L (i+1))) ?_ (fun s hs=>Ret.some hs)
    rw [zcZ,zc0]
    unfold Q8
    refine Ret.bindE (zgi h hi) ?_
    refine Ret.ite (fun hd => ?_) (fun hd => ?_)
    · refine Ret.bindE (x:=jb 2 (-1) (i:Int) (-1) []) rfl ?_
      refine Ret.bindE (jB (by simp;omega)) ?_
      exact Ret.some (by rw [hd];simp [jS])
    · refine Ret.bindE (zjw h hi) ?_
      refine Ret.ite (fun hu => ?_) (fun hu => ?_)
      · refine Ret.bindE (x:=jb 3 (-1) (i:Int) (-1) []) rfl ?_
        refine Ret.bindE (jB (by simp;omega)) ?_
        exact Ret.some (by rw [hd,hu];simp [wi])
      · exact Ret.some (by rw [hd,hu];simp)
  rintro o rfl
  simp only [Sum.elim_inl]
  have l1:=Jq L c.Zag.length
  have l2:=Jr c L c.Zag.length
  refine Ret.bindE (jB (by simp;omega)) ?_
  refine Ret.bind (zbl hc h hvs) ?_
  intro C hC
  have hCl:=hC.len
  have hbig:c.Zag.length*c.Zag.length≤400*400:=Nat.mul_le_mul (by omega) (by omega)
  refine Ret.bindE (jB (by simp;omega)) ?_
  exact Ret.some (.inr ⟨rfl,s0,L,hst,hvs,hr,h,fun p hp=>hBs p (by omega),F,C,rfl,by rw [hnp];exact hF,hC⟩)
end
end
end Go.Proofs.YtlpmnmbebkdocaaGreatDoor
namespace Go.Proofs.YtlpmnmbebkdocaaGreatDoor
set_option linter.unusedSimpArgs false
set_option linter.unusedVariables false
set_option maxRecDepth 100000
def Le {α:Type} (x y:Option α):Prop:=∀ r,x=some r→y=some r
theorem Le.refl {α:Type} (x:Option α):Le x x:=fun _ h=>h
theorem Le.bind {α β:Type} {x y:Option α} {f g:α→Option β} (h:Le x y) (hf:∀ a,Le (f a) (g a)):Le (x.bind f) (y.bind g):=fun r hr=>by
  obtain ⟨a,h1,h2⟩:=Option.bind_eq_some_iff.1 hr
  rw [h a h1];exact hf a r h2
theorem Le.cond {α:Type} (b:Bool) {x y x' y':Option α} (h1:Le x x') (h2:Le y y'):Le (bif b then x else y) (bif b then x' else y'):=by
  cases b
  · exact h2
  · exact h1
theorem Le.elim {α β γ:Type} {f f':α→Option γ} {g g':β→Option γ} (h1:∀ a,Le (f a) (f' a)) (h2:∀ a,Le (g a) (g' a)) (o:α ⊕ β):Le (Sum.elim f g o) (Sum.elim f' g' o):=by
  cases o
  · exact h1 _
  · exact h2 _
theorem Le.forFrom {σ ρ:Type} {f g:Nat→σ→Option (σ ⊕ ρ)} (h:∀ i s,Le (f i s) (g i s)):∀ (k i:Nat) (s:σ),Le (forFrom f i k s) (forFrom g i k s)
  | 0,i,s=>Le.refl _
  | k+1,i,s=>fun r hr=>by
    simp only [Go.Proofs.YtlpmnmbebkdocaaGreatDoor.forFrom] at hr ⊢
    split at hr
    · cases hr
    · rename_i e;rw [h i s _ e];exact hr
    · rename_i e;rw [h i s _ e];exact Le.forFrom h k (i+1) _ r hr
theorem Le.forR {σ ρ:Type} {f g:Nat→σ→Option (σ ⊕ ρ)} (h:∀ i s,Le (f i s) (g i s)) (n:Int) (s:σ):Le (forR n f s) (forR n g s):=fun r hr=>by
  obtain ⟨h1,h2⟩:=V5 hr
  rw [ZR h1];exact Le.forFrom h _ _ _ r h2
theorem Le.iterN {σ ρ:Type} {f g:σ→Option (σ ⊕ ρ)} (h:∀ s,Le (f s) (g s)):∀ (k:Nat) (s:σ),Le (Go.Proofs.YtlpmnmbebkdocaaGreatDoor.iterN f k s) (Go.Proofs.YtlpmnmbebkdocaaGreatDoor.iterN g k s)
  | 0,s=>Le.refl _
  | k+1,s=>fun r hr=>by
    simp only [Go.Proofs.YtlpmnmbebkdocaaGreatDoor.iterN] at hr ⊢
    split at hr
    · cases hr
    · rename_i e;rw [h s _ e];exact hr
    · rename_i e;rw [h s _ e];exact Le.iterN h k _ r hr
theorem Le.iter {σ ρ:Type} {f g:σ→Option (σ ⊕ ρ)} (h:∀ s,Le (f s) (g s)) (k:Nat) (s:σ):Le (Go.Proofs.YtlpmnmbebkdocaaGreatDoor.iterN f k s) (Go.Proofs.YtlpmnmbebkdocaaGreatDoor.iter g s):=fun r hr=>wx.2 ⟨k,Le.iterN h k s r hr⟩
def VG:Nat→Nat→List UInt8
  | 0,u=>[]
  | f+1,u=>if u < 10 then [UInt8.ofNat (48+u)] else VG f (u / 10)++[UInt8.ofNat (48+u % 10)]
theorem VH:∀ (f u:Nat),u < 10 ^ (f+1)→VG (f+1) u=Lib.decDigits u
  | 0,u,h=>by
    rw [Lib.decDigits]
    simp only [VG]
    rw [if_pos (by omega),dif_pos (by omega)]
  | f+1,u,h=>by
    rw [Lib.decDigits,VG]
    by_cases hu:u < 10
    · rw [if_pos hu,dif_pos hu]
    · rw [if_neg hu,dif_neg hu,VH f (u / 10) (by rw [Nat.pow_succ] at h;omega)]
def jY (n:Int):Bool:=decide (-1000 < n)&&decide (n < 1000)
def zc2 (n:Int):List UInt8:=if n < 0 then 45::VG 4 n.natAbs else VG 4 n.toNat
theorem zgn {n:Int} (h:jY n=true):zc2 n=Lib.itoa n:=by
  simp only [jY,Bool.and_eq_true,decide_eq_true_eq] at h
  unfold zc2 Lib.itoa
  rw [VH 3 n.natAbs (by omega),VH 3 n.toNat (by omega)]
def jZ (n:Int):List UInt8:=zc2 n++[32]
theorem jD {n:Int} (h:jY n=true):jZ n=zB n:=by unfold jZ zB;rw [zgn h]
def Kb (m:zw):List UInt8:=jZ m.Zam++jZ m.left++jZ m.got++jZ m.Zau++zV m.ZaA
def ZD (m:zw):Bool:=jY m.Zam&&(jY m.left&&(jY m.got&&jY m.Zau))
def W4 (p:Zah):List UInt8:=zV p.own++jZ p.state.day++p.state.Zae.flatMap jZ++p.state.used.flatMap zV++p.state.Zaj.flatMap Kb
def Js (p:Zah):Bool:=jY p.state.day&&(p.state.Zae.all jY&&p.state.Zaj.all ZD)
theorem xN {α β:Type} {f g:α→List β}:∀ {l:List α},(∀ a∈l,f a=g a)→l.flatMap f=l.flatMap g
  | [],_=>rfl
  | a::l,h=>by rw [List.flatMap_cons,List.flatMap_cons,h a List.mem_cons_self,xN fun b hb=>h b (List.mem_cons_of_mem _ hb)]
theorem zgo {p:Zah} (h:Js p=true):W4 p=qo p:=by
  simp only [Js,Bool.and_eq_true,List.all_eq_true] at h
  unfold W4 qo
  rw [jD h.1,xN (f:=jZ) (g:=zB) (fun a ha=>jD (h.2.1 a ha)),xN (f:=Kb) (g:=qP) (fun a ha=>by
    have:=h.2.2 a ha
    simp only [ZD,Bool.and_eq_true] at this
    show jZ a.Zam++jZ a.left++jZ a.got++jZ a.Zau++zV a.ZaA=zB a.Zam++zB a.left++zB a.got++zB a.Zau++zV a.ZaA
    rw [jD this.1,jD this.2.1,jD this.2.2.1,jD this.2.2.2])]
theorem jj {n:Int} (h:jY n=true):je n=true:=by
  simp only [jY,je,Bool.and_eq_true,decide_eq_true_eq] at h ⊢
  omega
def yB (p:Zah):Option ByteArray:=bif Js p&&decide ((W4 p).length≤1000000000) then some ⟨(W4 p).toArray⟩ else none
theorem zbR (p:Zah):Le (yB p) (jI p):=fun r h=>by
  unfold yB at h
  cases hq:(Js p&&decide ((W4 p).length≤1000000000)) with
  | false=>rw [hq] at h;cases h
  | true=>
    rw [hq] at h
    simp only [Bool.and_eq_true,decide_eq_true_eq] at hq
    have e:=zgo hq.1
    unfold jI
    rw [if_pos,←e]
    · exact h
    · have h1:=hq.1
      simp only [Js,Bool.and_eq_true,List.all_eq_true] at h1
      simp only [okP,Bool.and_eq_true,decide_eq_true_eq,List.all_eq_true]
      refine ⟨⟨⟨jj h1.1,fun x hx=>jj (h1.2.1 x hx)⟩,fun m hm => ?_⟩,by rw [←e];exact hq.2⟩
      have:=h1.2.2 m hm
      simp only [ZD,Bool.and_eq_true] at this
      exact ⟨⟨⟨jj this.1,jj this.2.1⟩,jj this.2.2.1⟩,jj this.2.2.2⟩
noncomputable def W5 (p1:Zab) (p2:Int) (p3:List Int) (p4:Nat) (p5:List Bool) (p6:Nat) (p7:List zw) (p8:Nat):Option ((List zw)):=
  (Option.bind (iterN (σ:=Bool×(List zw)) (ρ:=(List zw)) (fun s1=>(bif s1.1 then (Option.bind (forR (σ:=Bool×(List zw)) (ρ:=Unit) (p1.Zag.length:Int) (fun i2 s2=>(Option.bind (Option.bind (ze p1.Zag (i2:Int)) fun e1=>(Option.bind (eqN p4 p3.length) fun g1=>(Option.bind (eqN p6 p5.length) fun g2=>(Option.bind (eqN p8 s2.2.length) fun g3=>(Option.bind (vA p1 ({day:=p2,Zae:=p3,used:=p5,Zaj:=s2.2}:Zac) (i2:Int)) fun r1=>(bif r1 then (Option.bind (bif (e1.kind == 4) then some (-1) else (Option.bind (zk p4 e1.Zap) fun k1=>(Option.bind (p3[k1]?) fun e2=>some e2))) fun (v1:Int)=>(Option.bind (zk p8 (i2:Int)) fun k2=>(Option.bind (s2.2[k2]?) fun e3=>some (true,(s2.2.set k2 ({Zam:=1,left:=e1.after,got:=0,Zau:=v1,ZaA:=false}:zw)))))) else some (s2.1,s2.2))))))) fun (v2:Bool×(List zw))=>some (.inl (v2.1,v2.2)))) (false,s1.2)) (Sum.elim (fun (s2:Bool×(List zw))=>some (.inl (s2.1,s2.2))) (fun _=>none))) else some (.inr s1.2))) 40 (true,p7)) (fun (y1:(List zw))=>some y1))
theorem zaK (p1:Zab) (p2:Int) (p3:List Int) (p4:Nat) (p5:List Bool) (p6:Nat) (p7:List zw) (p8:Nat):Le (W5 p1 p2 p3 p4 p5 p6 p7 p8) (wd p1 p2 p3 p4 p5 p6 p7 p8):=by
  unfold W5 wd
  repeat' (first | with_reducible exact Le.refl _ | with_reducible refine Le.bind ?_ (fun _ => ?_) | with_reducible refine Le.cond _ ?_ ?_ | with_reducible refine Le.forR (fun _ _ => ?_) _ _ | with_reducible refine Le.iter (fun _ => ?_) _ _ | with_reducible refine Le.elim (fun _ => ?_) (fun _ => ?_) _)
noncomputable def ZE (c:Zab):Option (Zac×Int):=
  (Option.bind (vz c) fun r1=>(bif (r1.1 == 0) then (Option.bind (jm 8 c.Zae) fun e1=>(Option.bind (mkN 1 (c.Zai.length:Int)) fun k1=>(Option.bind (mkN 40 (c.Zag.length:Int)) fun k2=>(Option.bind (forR (σ:=(List zw)) (ρ:=Unit) (c.Zag.length:Int) (fun i1 s1=>(Option.bind (Option.bind (ze c.Zag (i1:Int)) fun e2=>(Option.bind (zk k2 (i1:Int)) fun k3=>(Option.bind (s1[k3]?) fun e3=>(bif e2.ZaB then (Option.bind (zk k2 (i1:Int)) fun k4=>(Option.bind ((s1.set k3 ({Zam:=0,left:=0,got:=0,Zau:=(-1),ZaA:=false}:zw))[k4]?) fun e4=>some ((s1.set k3 ({Zam:=0,left:=0,got:=0,Zau:=(-1),ZaA:=false}:zw)).set k4 ({e4 with Zam:=5}:zw)))) else some (s1.set k3 ({Zam:=0,left:=0,got:=0,Zau:=(-1),ZaA:=false}:zw)))))) fun (v1:(List zw))=>some (.inl v1))) (List.replicate k2 ({Zam:=0,left:=0,got:=0,Zau:=0,ZaA:=false}:zw))) (Sum.elim (fun (s1:(List zw))=>(Option.bind (W5 c 0 e1 e1.length (List.replicate k1 false) k1 s1 k2) fun r2=>(Option.bind (eqN k1 (List.replicate k1 false).length) fun g1=>(Option.bind (eqN k2 r2.length) fun g2=>some (({day:=0,Zae:=e1,used:=(List.replicate k1 false),Zaj:=r2}:Zac),0))))) (fun _=>none)))))) else some (({day:=0,Zae:=[],used:=[],Zaj:=[]}:Zac),1)))
theorem XF (c:Zab):Le (ZE c) (qA c):=by
  unfold ZE qA
  repeat' (first | with_reducible exact Le.refl _ | with_reducible exact zaK _ _ _ _ _ _ _ _ | with_reducible refine Le.bind ?_ (fun _ => ?_) | with_reducible refine Le.cond _ ?_ ?_ | with_reducible refine Le.forR (fun _ _ => ?_) _ _ | with_reducible refine Le.iter (fun _ => ?_) _ _ | with_reducible refine Le.elim (fun _ => ?_) (fun _ => ?_) _)
noncomputable def vK (l:List Int) (v:Int):Option (Int×Bool):=
  (Option.bind (Option.bind (iterN (σ:=Int×Int) (ρ:=Int) (fun s1=>(bif decide (s1.1 < s1.2) then (Option.bind (QT .u64 .u64 (IntKind.u64.wrap (IntKind.i64.wrap (s1.1+s1.2))) 1) fun e1=>(Option.bind (ze l (IntKind.i64.wrap e1)) fun e2=>(Option.bind (Zv e2 v) fun r1=>(bif r1 then some (.inl ((IntKind.i64.wrap ((IntKind.i64.wrap e1)+1)),s1.2)) else some (.inl (s1.1,(IntKind.i64.wrap e1))))))) else some (.inr s1.1))) 40 (0,(l.length:Int))) (fun (y1:Int)=>some y1)) fun (v1:Int)=>(Option.bind (bif decide (v1 < (l.length:Int)) then (Option.bind (ze l v1) fun e3=>(bif (e3 == v) then some true else (Option.bind (yP e3) fun r2=>(bif r2 then (Option.bind (yP v) fun r3=>some r3) else some false)))) else some false) fun v2=>some (v1,v2)))
theorem W6 (l:List Int) (v:Int):Le (vK l v) (jt l v):=by
  unfold vK jt
  repeat' (first | with_reducible exact Le.refl _ | with_reducible refine Le.bind ?_ (fun _ => ?_) | with_reducible refine Le.cond _ ?_ ?_ | with_reducible refine Le.forR (fun _ _ => ?_) _ _ | with_reducible refine Le.iter (fun _ => ?_) _ _ | with_reducible refine Le.elim (fun _ => ?_) (fun _ => ?_) _)
noncomputable def zc3 (p1:Zab) (p2:Int) (p3:List Int) (p4:Nat) (p5:List Bool) (p6:Nat) (p7:List zw) (p8:Nat):Option ((List zw)):=
  (Option.bind (vK p1.off p2) fun r1=>(Option.bind (Option.bind (xd p1 p2 p3 p4 p5 p6 p7 p8) fun r2=>(Option.bind (forR (σ:=(List zw)) (ρ:=(List zw)) (p8:Int) (fun i1 s1=>(Option.bind (Option.bind (zk p8 (i1:Int)) fun k1=>(Option.bind (s1[k1]?) fun e1=>(Option.bind (jp e1) fun r3=>(bif r3 then (Option.bind (Option.bind (ze p1.Zag (i1:Int)) fun e2=>(Option.bind (Option.bind (zk p8 (i1:Int)) fun k2=>(Option.bind (s1[k2]?) fun e3=>(bif e3.ZaA then some true else (bif e2.ZaE then some r1.2 else some false)))) fun v1=>(bif v1 then some s1 else (Option.bind (zk p8 (i1:Int)) fun k3=>(Option.bind (s1[k3]?) fun e4=>(Option.bind (zk p8 (i1:Int)) fun k4=>(Option.bind ((s1.set k3 ({e4 with left:=(IntKind.i64.wrap (e4.left - 1))}:zw))[k4]?) fun e5=>(bif (e5.left == 0) then (Option.bind (bif (e2.kind == (0:Int)) then none else (bif (e2.kind == (1:Int)) then (Option.bind (Wz (i1:Int) p1 p2 p3 p4 p5 p6 (s1.set k3 ({e4 with left:=(IntKind.i64.wrap (e4.left - 1))}:zw)) p8) fun r7=>some r7) else (bif (e2.kind == (2:Int)) then (Option.bind (we (i1:Int) p1 p2 p3 p4 p5 p6 (s1.set k3 ({e4 with left:=(IntKind.i64.wrap (e4.left - 1))}:zw)) p8) fun r6=>some r6) else (bif (e2.kind == (3:Int)) then (Option.bind (kP (i1:Int) p1 p2 p3 p4 p5 p6 (s1.set k3 ({e4 with left:=(IntKind.i64.wrap (e4.left - 1))}:zw)) p8) fun r5=>some r5) else (bif (e2.kind == (4:Int)) then (Option.bind (kP (i1:Int) p1 p2 p3 p4 p5 p6 (s1.set k3 ({e4 with left:=(IntKind.i64.wrap (e4.left - 1))}:zw)) p8) fun r4=>some r4) else none))))) fun v2=>some v2) else some (s1.set k3 ({e4 with left:=(IntKind.i64.wrap (e4.left - 1))}:zw)))))))))) fun (v3:(List zw))=>some ((!true),v3)) else some (false,s1))))) fun (v4:Bool×(List zw))=>(bif v4.1 then some (.inr v4.2) else some (.inl v4.2)))) p7) (Sum.elim (fun (s1:(List zw))=>some s1) (fun (y1:(List zw))=>some y1)))) fun (v5:(List zw))=>(Option.bind (W5 p1 (IntKind.i64.wrap (p2+1)) p3 p4 p5 p6 v5 p8) fun r8=>some r8)))
theorem zjy (p1:Zab) (p2:Int) (p3:List Int) (p4:Nat) (p5:List Bool) (p6:Nat) (p7:List zw) (p8:Nat):Le (zc3 p1 p2 p3 p4 p5 p6 p7 p8) (d_70a p1 p2 p3 p4 p5 p6 p7 p8):=by
  unfold zc3 d_70a
  repeat' (first | with_reducible exact Le.refl _ | with_reducible exact W6 _ _ | with_reducible exact zaK _ _ _ _ _ _ _ _ | with_reducible refine Le.bind ?_ (fun _ => ?_) | with_reducible refine Le.cond _ ?_ ?_ | with_reducible refine Le.forR (fun _ _ => ?_) _ _ | with_reducible refine Le.iter (fun _ => ?_) _ _ | with_reducible refine Le.elim (fun _ => ?_) (fun _ => ?_) _)
noncomputable def zc4 (p1:Int) (p2:Zab) (p3:Int) (p4:List Int) (p5:Nat) (p6:List Bool) (p7:Nat) (p8:List zw) (p9:Nat):Option ((List Int)×(List Bool)×(List zw)):=
  (Option.bind (ze p2.Zai p1) fun e1=>(Option.bind (bif (e1.kind == 1) then some false else (Option.bind (zk p7 p1) fun k1=>(Option.bind (p6[k1]?) fun e2=>some e2))) fun v1=>(bif v1 then some (p4,p6,p8) else (Option.bind (Option.bind (xd p2 p3 p4 p5 p6 p7 p8 p9) fun r1=>(Option.bind (forR (σ:=(List zw)) (ρ:=(List zw)) (p9:Int) (fun i1 s1=>(Option.bind (Option.bind (zk p9 (i1:Int)) fun k2=>(Option.bind (s1[k2]?) fun e3=>(Option.bind (jp e3) fun r2=>(bif r2 then (Option.bind (Option.bind (ze p2.Zag (i1:Int)) fun e4=>(bif (p1 == e4.pause) then (Option.bind (zk p9 (i1:Int)) fun k3=>(Option.bind (s1[k3]?) fun e5=>some (s1.set k3 ({e5 with ZaA:=true}:zw)))) else (Option.bind (ze p2.Zag (i1:Int)) fun e6=>(bif (p1 == e6.ZaC) then (Option.bind (zk p9 (i1:Int)) fun k4=>(Option.bind (s1[k4]?) fun e7=>some (s1.set k4 ({e7 with ZaA:=false}:zw)))) else some s1)))) fun (v2:(List zw))=>some ((!true),v2)) else some (false,s1))))) fun (v3:Bool×(List zw))=>(bif v3.1 then some (.inr v3.2) else some (.inl v3.2)))) p8) (Sum.elim (fun (s1:(List zw))=>some s1) (fun (y1:(List zw))=>some y1)))) fun (v4:(List zw))=>(Option.bind (eqN p5 p4.length) fun g1=>(Option.bind (eqN p7 p6.length) fun g2=>(Option.bind (eqN p9 v4.length) fun g3=>(Option.bind (kn p2 ({day:=p3,Zae:=p4,used:=p6,Zaj:=v4}:Zac) p1) fun r3=>(Option.bind (Option.bind (xd p2 p3 p4 p5 p6 p7 v4 p9) fun r4=>(Option.bind (forR (σ:=(List zw)) (ρ:=(List zw)) (p9:Int) (fun i2 s2=>(Option.bind (Option.bind (zk p9 (i2:Int)) fun k5=>(Option.bind (s2[k5]?) fun e8=>(Option.bind (jp e8) fun r5=>(bif r5 then (Option.bind (Option.bind (ze p2.Zag (i2:Int)) fun e9=>(Option.bind (bif (e9.act == p1) then (bif (e9.kind == 4) then some true else (Option.bind (zk p9 (i2:Int)) fun k6=>(Option.bind (s2[k6]?) fun e10=>some (e10.Zau == r3)))) else some false) fun v5=>(bif v5 then (Option.bind (bif (e9.kind == (0:Int)) then none else (bif (e9.kind == (1:Int)) then (Option.bind (WB (i2:Int) p2 p3 p4 p5 p6 p7 s2 p9) fun r9=>some r9) else (bif (e9.kind == (2:Int)) then (Option.bind (WA (i2:Int) p2 p3 p4 p5 p6 p7 s2 p9) fun r8=>some r8) else (bif (e9.kind == (3:Int)) then (Option.bind (we (i2:Int) p2 p3 p4 p5 p6 p7 s2 p9) fun r7=>some r7) else (bif (e9.kind == (4:Int)) then (Option.bind (we (i2:Int) p2 p3 p4 p5 p6 p7 s2 p9) fun r6=>some r6) else none))))) fun v6=>some v6) else some s2))) fun (v7:(List zw))=>some ((!true),v7)) else some (false,s2))))) fun (v8:Bool×(List zw))=>(bif v8.1 then some (.inr v8.2) else some (.inl v8.2)))) v4) (Sum.elim (fun (s2:(List zw))=>some s2) (fun (y2:(List zw))=>some y2)))) fun (v9:(List zw))=>(Option.bind (bif (e1.kind == 1) then some (p4,p6,v9) else (Option.bind (WC p1 p2 p3 p4 p5 p6 p7 v9 p9) fun r10=>some (r10.1,r10.2.1,r10.2.2))) fun (v10:(List Int)×(List Bool)×(List zw))=>(Option.bind (W5 p2 p3 v10.1 p5 v10.2.1 p7 v10.2.2 p9) fun r11=>some (v10.1,v10.2.1,r11))))))))))))
theorem zjz (p1:Int) (p2:Zab) (p3:Int) (p4:List Int) (p5:Nat) (p6:List Bool) (p7:Nat) (p8:List zw) (p9:Nat):Le (zc4 p1 p2 p3 p4 p5 p6 p7 p8 p9) (Qb p1 p2 p3 p4 p5 p6 p7 p8 p9):=by
  unfold zc4 Qb
  repeat' (first | with_reducible exact Le.refl _ | with_reducible exact zaK _ _ _ _ _ _ _ _ | with_reducible refine Le.bind ?_ (fun _ => ?_) | with_reducible refine Le.cond _ ?_ ?_ | with_reducible refine Le.forR (fun _ _ => ?_) _ _ | with_reducible refine Le.iter (fun _ => ?_) _ _ | with_reducible refine Le.elim (fun _ => ?_) (fun _ => ?_) _)
noncomputable def yC (c:Zab) (s:Zac) (step:Int):Option (Zac×Int):=
  (Option.bind (Option.bind (xc c s) fun r1=>(bif r1 then (bif decide (step < (-1)) then some true else some (decide ((c.Zai.length:Int)≤step))) else some true)) fun v1=>(bif v1 then some (({day:=0,Zae:=[],used:=[],Zaj:=[]}:Zac),1) else (bif (s.day == c.Zat) then some (({day:=0,Zae:=[],used:=[],Zaj:=[]}:Zac),13) else (Option.bind (mkN 8 (s.Zae.length:Int)) fun k1=>(Option.bind (mkN 1 (s.used.length:Int)) fun k2=>(Option.bind (mkN 40 (s.Zaj.length:Int)) fun k3=>(Option.bind (xy (α:=Int) k1 (List.replicate k1 0) s.Zae) fun e1=>(Option.bind (xy (α:=Bool) k2 (List.replicate k2 false) s.used) fun e2=>(Option.bind (xy (α:=zw) k3 (List.replicate k3 ({Zam:=0,left:=0,got:=0,Zau:=0,ZaA:=false}:zw)) s.Zaj) fun e3=>(Option.bind (bif (step == (-1)) then (Option.bind (zc3 c s.day e1 k1 e2 k2 e3 k3) fun r2=>some (e1,e2,r2,(IntKind.i64.wrap (s.day+1)))) else (Option.bind (zc4 step c s.day e1 k1 e2 k2 e3 k3) fun r3=>some (r3.1,r3.2.1,r3.2.2,s.day))) fun (v2:(List Int)×(List Bool)×(List zw)×Int)=>(Option.bind (eqN k1 v2.1.length) fun g1=>(Option.bind (eqN k2 v2.2.1.length) fun g2=>(Option.bind (eqN k3 v2.2.2.1.length) fun g3=>some (({day:=v2.2.2.2,Zae:=v2.1,used:=v2.2.1,Zaj:=v2.2.2.1}:Zac),0))))))))))))))
theorem ZF (c:Zab) (s:Zac) (step:Int):Le (yC c s step) (d_Step c s step):=by
  unfold yC d_Step
  repeat' (first | with_reducible exact Le.refl _ | with_reducible exact zjy _ _ _ _ _ _ _ _ | with_reducible exact zjz _ _ _ _ _ _ _ _ _ | with_reducible refine Le.bind ?_ (fun _ => ?_) | with_reducible refine Le.cond _ ?_ ?_ | with_reducible refine Le.forR (fun _ _ => ?_) _ _ | with_reducible refine Le.iter (fun _ => ?_) _ _ | with_reducible refine Le.elim (fun _ => ?_) (fun _ => ?_) _)
noncomputable def zaL (c:Zab) (Zaa:Int) (p:Zah):Option (ZaF×Int):=
  (Option.bind (wY c Zaa p) fun r1=>(bif r1 then (Option.bind (wn p.state) fun r2=>(Option.bind (yB p) fun r3=>(Option.bind (α:=((List Zah)×(List (List Zar))) ⊕ Unit) (Option.bind (iterN (σ:=Int×(List Zah)×(List (List Zar))×(List (ByteArray×Int))) (ρ:=((List Zah)×(List (List Zar))) ⊕ Unit) (fun s1=>(bif decide (s1.1 < (s1.2.1.length:Int)) then (Option.bind (α:=((List Zah)×(List (ByteArray×Int))×(List Zar)) ⊕ Unit) (Option.bind (ze s1.2.1 s1.1) fun e1=>(Option.bind (WD c Zaa e1) fun r4=>(Option.bind (α:=((List Zah)×(List (ByteArray×Int))×(List Zar)) ⊕ (Unit ⊕ ((List Zah)×(List (ByteArray×Int))×(List Zar)))) (bif e1.own then (Option.bind (wn e1.state) fun r5=>(Option.bind (yB ({state:=r5,own:=false}:Zah)) fun r6=>(Option.bind (α:=(Int×(List Zah)×(List (ByteArray×Int))) ⊕ Unit) (bif ((zq r6 s1.2.2.2).isSome) then some (.inl (((zq r6 s1.2.2.2).getD 0),s1.2.1,s1.2.2.2)) else (bif ((s1.2.1.length:Int) == 1500) then some (.inr ()) else (Option.bind (zO (α:=Zah) 88 s1.2.1 [({state:=r5,own:=false}:Zah)]) fun e2=>some (.inl ((s1.2.1.length:Int),e2,(zP r6 (s1.2.1.length:Int) s1.2.2.2)))))) (Sum.elim (fun (v1:Int×(List Zah)×(List (ByteArray×Int)))=>(Option.bind (zO (α:=Zar) 16 [] [({step:=(-2),to:=v1.1}:Zar)]) fun e3=>(bif decide (c.Zat≤e1.state.day) then some (.inr (.inr (v1.2.1,v1.2.2,e3))) else some (.inl (v1.2.1,v1.2.2,e3))))) (fun (y1:Unit)=>some (.inr (.inl ()))))))) else (bif decide (c.Zat≤e1.state.day) then some (.inr (.inr (s1.2.1,s1.2.2.2,[]))) else some (.inl (s1.2.1,s1.2.2.2,[])))) (Sum.elim (fun (v2:(List Zah)×(List (ByteArray×Int))×(List Zar))=>(Option.bind (α:=((List Zah)×(List (ByteArray×Int))×(List Zar)) ⊕ Unit) (bif e1.own then some (.inl (v2.1,v2.2.1,v2.2.2)) else (Option.bind (yC c e1.state (-1)) fun r7=>(Option.bind (yB ({state:=r7.1,own:=true}:Zah)) fun r8=>(Option.bind (α:=(Int×(List Zah)×(List (ByteArray×Int))) ⊕ Unit) (bif ((zq r8 v2.2.1).isSome) then some (.inl (((zq r8 v2.2.1).getD 0),v2.1,v2.2.1)) else (bif ((v2.1.length:Int) == 1500) then some (.inr ()) else (Option.bind (zO (α:=Zah) 88 v2.1 [({state:=r7.1,own:=true}:Zah)]) fun e4=>some (.inl ((v2.1.length:Int),e4,(zP r8 (v2.1.length:Int) v2.2.1)))))) (Sum.elim (fun (v3:Int×(List Zah)×(List (ByteArray×Int)))=>(Option.bind (zO (α:=Zar) 16 v2.2.2 [({step:=(-1),to:=v3.1}:Zar)]) fun e5=>some (.inl (v3.2.1,v3.2.2,e5)))) (fun (y4:Unit)=>some (.inr ()))))))) (Sum.elim (fun (v4:(List Zah)×(List (ByteArray×Int))×(List Zar))=>(Option.bind (forR (σ:=(List Zah)×(List (ByteArray×Int))×(List Zar)) (ρ:=(List Zah)×(List (ByteArray×Int))×(List Zar)) (c.Zai.length:Int) (fun i2 s2=>(Option.bind (α:=((List Zah)×(List (ByteArray×Int))×(List Zar)) ⊕ Unit) (Option.bind (ze c.Zai (i2:Int)) fun e6=>(Option.bind (bif (e6.Zap == (-1)) then some (-1) else (Option.bind (ze e1.state.Zae e6.Zap) fun e7=>some e7)) fun (v5:Int)=>(bif ((v5 == Zaa) == e1.own) then (Option.bind (yC c e1.state (i2:Int)) fun r9=>(Option.bind (Zw r9.1 e1.state) fun r10=>(bif r10 then some (.inl (s2.1,s2.2.1,s2.2.2)) else (Option.bind (yB ({state:=r9.1,own:=true}:Zah)) fun r11=>(Option.bind (α:=(Int×(List Zah)×(List (ByteArray×Int))) ⊕ Unit) (bif ((zq r11 s2.2.1).isSome) then some (.inl (((zq r11 s2.2.1).getD 0),s2.1,s2.2.1)) else (bif ((s2.1.length:Int) == 1500) then some (.inr ()) else (Option.bind (zO (α:=Zah) 88 s2.1 [({state:=r9.1,own:=true}:Zah)]) fun e8=>some (.inl ((s2.1.length:Int),e8,(zP r11 (s2.1.length:Int) s2.2.1)))))) (Sum.elim (fun (v6:Int×(List Zah)×(List (ByteArray×Int)))=>(Option.bind (zO (α:=Zar) 16 s2.2.2 [({step:=(i2:Int),to:=v6.1}:Zar)]) fun e9=>some (.inl (v6.2.1,v6.2.2,e9)))) (fun (y6:Unit)=>some (.inr ())))))))) else some (.inl (s2.1,s2.2.1,s2.2.2))))) (Sum.elim (fun (v7:(List Zah)×(List (ByteArray×Int))×(List Zar))=>some (.inl (v7.1,v7.2.1,v7.2.2))) (fun (y7:Unit)=>some (.inr (s2.1,s2.2.1,s2.2.2)))))) (v4.1,v4.2.1,v4.2.2)) (Sum.elim (fun (s2:(List Zah)×(List (ByteArray×Int))×(List Zar))=>some (.inl (s2.1,s2.2.1,s2.2.2))) (fun (y8:(List Zah)×(List (ByteArray×Int))×(List Zar))=>some (.inr ()))))) (fun (y5:Unit)=>some (.inr ()))))) (Sum.elim (fun (y2:Unit)=>some (.inr ())) (fun (y3:(List Zah)×(List (ByteArray×Int))×(List Zar))=>some (.inl (y3.1,y3.2.1,y3.2.2)))))))) (Sum.elim (fun (v8:(List Zah)×(List (ByteArray×Int))×(List Zar))=>(Option.bind (zO (α:=List Zar) 24 s1.2.2.1 [v8.2.2]) fun e10=>some (.inl ((IntKind.i64.wrap (s1.1+1)),v8.1,e10,v8.2.1)))) (fun (y9:Unit)=>some (.inr (.inr ()))))) else some (.inr (.inl (s1.2.1,s1.2.2.1))))) 40 (0,[({state:=r2,own:=p.own}:Zah)],[],(zP r3 0 []))) (Sum.elim (fun (y10:(List Zah)×(List (List Zar)))=>some (.inl (y10.1,y10.2))) (fun (y11:Unit)=>some (.inr ())))) (Sum.elim (fun (v9:(List Zah)×(List (List Zar)))=>some (({Zaa:=Zaa,Zaw:=v9.1,moves:=v9.2}:ZaF),0)) (fun (y12:Unit)=>some (({Zaa:=0,Zaw:=[],moves:=[]}:ZaF),3)))))) else some (({Zaa:=0,Zaw:=[],moves:=[]}:ZaF),1)))
theorem zhQ (c:Zab) (Zaa:Int) (p:Zah):Le (zaL c Zaa p) (x4 c Zaa p):=by
  unfold zaL x4
  repeat' (first | with_reducible exact Le.refl _ | with_reducible exact zbR _ | with_reducible exact ZF _ _ _ | with_reducible refine Le.bind ?_ (fun _ => ?_) | with_reducible refine Le.cond _ ?_ ?_ | with_reducible refine Le.forR (fun _ _ => ?_) _ _ | with_reducible refine Le.iter (fun _ => ?_) _ _ | with_reducible refine Le.elim (fun _ => ?_) (fun _ => ?_) _)
noncomputable def J0 (c:Zab) (Zaa:Int):Option (ZaF×Int):=
  (Option.bind (ZE c) fun r1=>(bif (r1.2 == 0) then (Option.bind (zaL c Zaa ({state:=r1.1,own:=true}:Zah)) fun r2=>some (r2.1,r2.2)) else some (({Zaa:=0,Zaw:=[],moves:=[]}:ZaF),r1.2)))
theorem zaM (c:Zab) (Zaa:Int):Le (J0 c Zaa) (ju c Zaa):=by
  unfold J0 ju
  repeat' (first | with_reducible exact Le.refl _ | with_reducible exact XF _ | with_reducible exact zhQ _ _ _ | with_reducible refine Le.bind ?_ (fun _ => ?_) | with_reducible refine Le.cond _ ?_ ?_ | with_reducible refine Le.forR (fun _ _ => ?_) _ _ | with_reducible refine Le.iter (fun _ => ?_) _ _ | with_reducible refine Le.elim (fun _ => ?_) (fun _ => ?_) _)
noncomputable def J1 (c:Zab) (a:ZaF):Option (List Int):=
  (Option.bind (xK c a) fun r1=>(bif r1 then (Option.bind (mkN 8 (a.Zaw.length:Int)) fun k1=>(Option.bind (mkN 8 (a.Zaw.length:Int)) fun k2=>(Option.bind (mkN 24 (a.Zaw.length:Int)) fun k3=>(Option.bind (forR (σ:=(List Int)×(List Int)×(List (List Int))×(List Int)) (ρ:=Unit) (a.Zaw.length:Int) (fun i1 s1=>(Option.bind (Option.bind (ze a.Zaw (i1:Int)) fun e1=>(Option.bind (ze a.moves (i1:Int)) fun e2=>(Option.bind (zk k1 (i1:Int)) fun k4=>(Option.bind (s1.1[k4]?) fun e3=>(Option.bind (zk k2 (i1:Int)) fun k5=>(Option.bind (s1.2.1[k5]?) fun e4=>(Option.bind (ze a.moves (i1:Int)) fun e5=>(Option.bind (forR (σ:=(List (List Int))) (ρ:=Unit) (e5.length:Int) (fun i2 s2=>(Option.bind (ze e5 (i2:Int)) fun e6=>(Option.bind (wA s2 k3 e6.to (i1:Int)) fun v1=>some (.inl v1)))) s1.2.2.1) (Sum.elim (fun (s2:(List (List Int)))=>(Option.bind (Q6 c e1.state a.Zaa) fun r2=>(bif r2 then (Option.bind (zk k1 (i1:Int)) fun k6=>(Option.bind ((s1.1.set k4 (-1))[k6]?) fun e7=>(Option.bind (yv (i1:Int) s1.2.2.2 0) fun r3=>some (((s1.1.set k4 (-1)).set k6 0),(s1.2.1.set k5 (e2.length:Int)),s2,r3)))) else some ((s1.1.set k4 (-1)),(s1.2.1.set k5 (e2.length:Int)),s2,s1.2.2.2)))) (fun _=>none)))))))))) fun (v2:(List Int)×(List Int)×(List (List Int))×(List Int))=>some (.inl (v2.1,v2.2.1,v2.2.2.1,v2.2.2.2)))) ((List.replicate k1 0),(List.replicate k2 0),(List.replicate k3 []),[])) (Sum.elim (fun (s1:(List Int)×(List Int)×(List (List Int))×(List Int))=>(Option.bind (forR (σ:=(List Int)×(List Int)) (ρ:=Unit) (a.Zaw.length:Int) (fun i3 s3=>(Option.bind (Option.bind (ze a.Zaw (i3:Int)) fun e8=>(Option.bind (bif e8.own then (Option.bind (zk k2 (i3:Int)) fun k7=>(Option.bind (s1.2.1[k7]?) fun e9=>(bif (e9 == 0) then (Option.bind (zk k1 (i3:Int)) fun k8=>(Option.bind (s3.1[k8]?) fun e10=>some (e10 == (-1)))) else some false))) else some false) fun v3=>(bif v3 then (Option.bind (yw (i3:Int) 1 s3.1 k1 s3.2 0) fun r4=>some (r4.2,r4.1)) else some (s3.1,s3.2)))) fun (v4:(List Int)×(List Int))=>some (.inl (v4.1,v4.2)))) (s1.1,s1.2.2.2)) (Sum.elim (fun (s3:(List Int)×(List Int))=>(Option.bind (Option.bind (x5 s3.2 0) fun r5=>(Option.bind (iterN (σ:=Int×Bool×(List Int)×(List Int)×(List Int)×Int) (ρ:=(List Int)) (fun s4=>(bif s4.2.1 then (Option.bind (zk k3 s4.1) fun k9=>(Option.bind (s1.2.2.1[k9]?) fun e11=>(Option.bind (forR (σ:=(List Int)×(List Int)×(List Int)) (ρ:=Unit) (e11.length:Int) (fun i5 s5=>(Option.bind (ze e11 (i5:Int)) fun e12=>(Option.bind (Zx e12 s4.1 s5.2.1 k2 s5.1 k1 a s5.2.2 s4.2.2.2.2.2) fun r6=>some (.inl (r6.2.1,r6.1,r6.2.2))))) (s4.2.2.1,s4.2.2.2.1,s4.2.2.2.2.1)) (Sum.elim (fun (s5:(List Int)×(List Int)×(List Int))=>(Option.bind (x5 s5.2.2 s4.2.2.2.2.2) fun r7=>some (.inl (r7.1,r7.2.1,s5.1,s5.2.1,s5.2.2,r7.2.2)))) (fun _=>none))))) else some (.inr s4.2.2.1))) 40 (r5.1,r5.2.1,s3.1,s1.2.1,s3.2,r5.2.2)) (fun (y1:(List Int))=>some y1))) fun (v5:(List Int))=>(Option.bind (eqN k1 v5.length) fun g1=>some v5))) (fun _=>none)))) (fun _=>none)))))) else some []))
theorem zaN (c:Zab) (a:ZaF):Le (J1 c a) (vC c a):=by
  unfold J1 vC
  repeat' (first | with_reducible exact Le.refl _ | with_reducible refine Le.bind ?_ (fun _ => ?_) | with_reducible refine Le.cond _ ?_ ?_ | with_reducible refine Le.forR (fun _ _ => ?_) _ _ | with_reducible refine Le.iter (fun _ => ?_) _ _ | with_reducible refine Le.elim (fun _ => ?_) (fun _ => ?_) _)
noncomputable def zaO (c:Zab) (a:ZaF):Option (List Bool):=
  (Option.bind (J1 c a) fun r1=>(Option.bind (mkN 1 (r1.length:Int)) fun k1=>(Option.bind (forR (σ:=(List Bool)) (ρ:=Unit) (r1.length:Int) (fun i1 s1=>(Option.bind (ze r1 (i1:Int)) fun e1=>(Option.bind (zk k1 (i1:Int)) fun k2=>(Option.bind (s1[k2]?) fun e2=>some (.inl (s1.set k2 (e1 == (-1)))))))) (List.replicate k1 false)) (Sum.elim (fun (s1:(List Bool))=>(Option.bind (eqN k1 s1.length) fun g1=>some s1)) (fun _=>none)))))
theorem zhR (c:Zab) (a:ZaF):Le (zaO c a) (WN c a):=by
  unfold zaO WN
  repeat' (first | with_reducible exact Le.refl _ | with_reducible exact zaN _ _ | with_reducible refine Le.bind ?_ (fun _ => ?_) | with_reducible refine Le.cond _ ?_ ?_ | with_reducible refine Le.forR (fun _ _ => ?_) _ _ | with_reducible refine Le.iter (fun _ => ?_) _ _ | with_reducible refine Le.elim (fun _ => ?_) (fun _ => ?_) _)
noncomputable def J2 (c:Zab):Option ((List Zac)×Int):=
  (Option.bind (ZE c) fun r1=>(bif (r1.2 == 0) then (Option.bind (yB ({state:=r1.1,own:=false}:Zah)) fun r2=>(Option.bind (α:=(List Zac) ⊕ Unit) (Option.bind (iterN (σ:=(List Zac)×Int×(List (ByteArray×Bool))) (ρ:=(List Zac) ⊕ Unit) (fun s1=>(bif decide (s1.2.1 < (s1.1.length:Int)) then (Option.bind (α:=((List Zac)×(List (ByteArray×Bool))) ⊕ Unit) (Option.bind (ze s1.1 s1.2.1) fun e1=>(bif (e1.day == c.Zat) then some (.inl (s1.1,s1.2.2)) else (Option.bind (iterN (σ:=(List Zac)×Int×(List (ByteArray×Bool))) (ρ:=((List Zac)×(List (ByteArray×Bool))) ⊕ Unit) (fun s2=>(bif decide (s2.2.1 < (c.Zai.length:Int)) then (Option.bind (α:=((List Zac)×(List (ByteArray×Bool))) ⊕ Unit) (Option.bind (ze s2.1 s1.2.1) fun e2=>(Option.bind (yC c e2 s2.2.1) fun r3=>(Option.bind (yB ({state:=r3.1,own:=false}:Zah)) fun r4=>(bif ((zq r4 s2.2.2).getD false) then some (.inl (s2.1,s2.2.2)) else (bif ((s2.1.length:Int) == 1500) then some (.inr ()) else (Option.bind (zO (α:=Zac) 80 s2.1 [r3.1]) fun e3=>some (.inl (e3,(zP r4 true s2.2.2))))))))) (Sum.elim (fun (v1:(List Zac)×(List (ByteArray×Bool)))=>some (.inl (v1.1,(IntKind.i64.wrap (s2.2.1+1)),v1.2))) (fun (y1:Unit)=>some (.inr (.inr ()))))) else some (.inr (.inl (s2.1,s2.2.2))))) 40 (s1.1,(-1),s1.2.2)) (Sum.elim (fun (y2:(List Zac)×(List (ByteArray×Bool)))=>some (.inl (y2.1,y2.2))) (fun (y3:Unit)=>some (.inr ())))))) (Sum.elim (fun (v2:(List Zac)×(List (ByteArray×Bool)))=>some (.inl (v2.1,(IntKind.i64.wrap (s1.2.1+1)),v2.2))) (fun (y4:Unit)=>some (.inr (.inr ()))))) else some (.inr (.inl s1.1)))) 40 ([r1.1],0,(zP r2 true []))) (Sum.elim (fun (y5:(List Zac))=>some (.inl y5)) (fun (y6:Unit)=>some (.inr ())))) (Sum.elim (fun (v3:(List Zac))=>some (v3,0)) (fun (y7:Unit)=>some ([],3))))) else some ([],r1.2)))
theorem zaP (c:Zab):Le (J2 c) (xr c):=by
  unfold J2 xr
  repeat' (first | with_reducible exact Le.refl _ | with_reducible exact XF _ | with_reducible exact zbR _ | with_reducible exact ZF _ _ _ | with_reducible refine Le.bind ?_ (fun _ => ?_) | with_reducible refine Le.cond _ ?_ ?_ | with_reducible refine Le.forR (fun _ _ => ?_) _ _ | with_reducible refine Le.iter (fun _ => ?_) _ _ | with_reducible refine Le.elim (fun _ => ?_) (fun _ => ?_) _)
def Jt (p:Zac):List UInt8:=jZ p.day++p.Zae.flatMap jZ++p.used.flatMap zV++p.Zaj.flatMap Kb
def Ju (p:Zac):Bool:=jY p.day&&(p.Zae.all jY&&p.Zaj.all ZD)
theorem zeR {p:Zac} (h:Ju p=true):Jt p=qh p:=by
  simp only [Ju,Bool.and_eq_true,List.all_eq_true] at h
  unfold Jt qh
  rw [jD h.1,xN (f:=jZ) (g:=zB) (fun a ha=>jD (h.2.1 a ha)),xN (f:=Kb) (g:=qP) (fun a ha=>by
    have:=h.2.2 a ha
    simp only [ZD,Bool.and_eq_true] at this
    show jZ a.Zam++jZ a.left++jZ a.got++jZ a.Zau++zV a.ZaA=zB a.Zam++zB a.left++zB a.got++zB a.Zau++zV a.ZaA
    rw [jD this.1,jD this.2.1,jD this.2.2.1,jD this.2.2.2])]
def J3 (p:Zac):Option ByteArray:=bif Ju p&&decide ((Jt p).length≤1000000000) then some ⟨(Jt p).toArray⟩ else none
theorem zgp (p:Zac):Le (J3 p) (wD p):=fun r h=>by
  unfold J3 at h
  cases hq:(Ju p&&decide ((Jt p).length≤1000000000)) with
  | false=>rw [hq] at h;cases h
  | true=>
    rw [hq] at h
    simp only [Bool.and_eq_true,decide_eq_true_eq] at hq
    have e:=zeR hq.1
    unfold wD
    rw [if_pos,←e]
    · exact h
    · have h1:=hq.1
      simp only [Ju,Bool.and_eq_true,List.all_eq_true] at h1
      simp only [zag,Bool.and_eq_true,decide_eq_true_eq,List.all_eq_true]
      refine ⟨⟨⟨jj h1.1,fun x hx=>jj (h1.2.1 x hx)⟩,fun m hm => ?_⟩,by rw [←e];exact hq.2⟩
      have:=h1.2.2 m hm
      simp only [ZD,Bool.and_eq_true] at this
      exact ⟨⟨⟨jj this.1,jj this.2.1⟩,jj this.2.2.1⟩,jj this.2.2.2⟩
noncomputable def zaQ (p1:List Int):Option ((List Int)):=
  (Option.bind (iterN (σ:=Int×Int×(List Int)) (ρ:=(List Int)) (fun s1=>(bif decide (s1.1 < s1.2.1) then (Option.bind (zk p1.length s1.2.1) fun k1=>(Option.bind (s1.2.2[k1]?) fun e1=>(Option.bind (zk p1.length s1.1) fun k2=>(Option.bind (s1.2.2[k2]?) fun e2=>(Option.bind ((s1.2.2.set k2 e1)[k1]?) fun e3=>some (.inl ((IntKind.i64.wrap (s1.1+1)),(IntKind.i64.wrap (s1.2.1 - 1)),((s1.2.2.set k2 e1).set k1 e2)))))))) else some (.inr s1.2.2))) 40 (0,(IntKind.i64.wrap ((p1.length:Int) - 1)),p1)) (fun (y1:(List Int))=>some y1))
theorem zhS (p1:List Int):Le (zaQ p1) (ko p1):=by
  unfold zaQ ko
  repeat' (first | with_reducible exact Le.refl _ | with_reducible refine Le.bind ?_ (fun _ => ?_) | with_reducible refine Le.cond _ ?_ ?_ | with_reducible refine Le.forR (fun _ _ => ?_) _ _ | with_reducible refine Le.iter (fun _ => ?_) _ _ | with_reducible refine Le.elim (fun _ => ?_) (fun _ => ?_) _)
noncomputable def zc5 (came:Option (List (Int×Zax))) (n:Int):Option (List Int):=
  Option.bind (iterN (σ:=List Int×Int) (ρ:=List Int) (Qc came) 60 ([],n)) fun l=>Option.bind (zaQ l) fun r=>Option.bind (eqN l.length r.length) fun _=>some r
theorem zjA (came:Option (List (Int×Zax))) (n:Int):Le (zc5 came n) (Qd came n):=by
  unfold zc5 Qd
  exact Le.bind (Le.iter (fun _=>Le.refl _) _ _) fun _=>Le.bind (zhS _) fun _=>Le.refl _
noncomputable def zaR (a:ZaF) (ranks:List Int):Option (List Int):=
  (Option.bind (Option.bind (iterN (σ:=(List Int)×Int) (ρ:=(List Int)) (fun s1=>(Option.bind (ze ranks s1.2) fun e1=>(bif decide (0 < e1) then (Option.bind (ze a.Zaw s1.2) fun e2=>(bif e2.own then (Option.bind (ze a.moves s1.2) fun e3=>(Option.bind (ze e3 0) fun e4=>some (.inl (s1.1,e4.to)))) else (Option.bind (ze a.moves s1.2) fun e5=>(Option.bind (Zy e5 ranks s1.2) fun r1=>(Option.bind (ze a.moves s1.2) fun e6=>(Option.bind (ze e6 r1) fun e7=>(Option.bind (zO (α:=Int) 8 s1.1 [e7.step]) fun e8=>some (.inl (e8,e7.to))))))))) else some (.inr s1.1)))) 40 ([],0)) (fun (y1:(List Int))=>some y1)) fun (v1:(List Int))=>some v1)
theorem zhT (a:ZaF) (ranks:List Int):Le (zaR a ranks) (Zz a ranks):=by
  unfold zaR Zz
  repeat' (first | with_reducible exact Le.refl _ | with_reducible refine Le.bind ?_ (fun _ => ?_) | with_reducible refine Le.cond _ ?_ ?_ | with_reducible refine Le.forR (fun _ _ => ?_) _ _ | with_reducible refine Le.iter (fun _ => ?_) _ _ | with_reducible refine Le.elim (fun _ => ?_) (fun _ => ?_) _)
noncomputable def VI (c:Zab) (states:List Zac):Option (Option (List (Int×Zax))):=
  (Option.bind (forR (σ:=(List (ByteArray×Int))) (ρ:=Unit) (states.length:Int) (fun i1 s1=>(Option.bind (ze states (i1:Int)) fun e1=>(Option.bind (J3 e1) fun r1=>some (.inl (zP r1 (i1:Int) s1))))) []) (Sum.elim (fun (s1:(List (ByteArray×Int)))=>(Option.bind (forR (σ:=(List (Int×Zax))) (ρ:=Unit) (states.length:Int) (fun i2 s2=>(Option.bind (Option.bind (ze states (i2:Int)) fun e2=>(bif (e2.day == c.Zat) then some s2 else (Option.bind (iterN (σ:=Int×(List (Int×Zax))) (ρ:=(List (Int×Zax))) (fun s3=>(bif decide (s3.1 < (c.Zai.length:Int)) then (Option.bind (Option.bind (yC c e2 s3.1) fun r2=>(Option.bind (J3 r2.1) fun r3=>(Option.bind (bif ((zq ((zq r3 s1).getD 0) s3.2).isSome) then some false else some (!(((zq r3 s1).getD 0) == 0))) fun v1=>(bif v1 then some (zP ((zq r3 s1).getD 0) ({from_:=(i2:Int),step:=s3.1}:Zax) s3.2) else some s3.2)))) fun (v2:(List (Int×Zax)))=>some (.inl ((IntKind.i64.wrap (s3.1+1)),v2))) else some (.inr s3.2))) 40 ((-1),s2)) (fun (y1:(List (Int×Zax)))=>some y1)))) fun (v3:(List (Int×Zax)))=>some (.inl v3))) []) (Sum.elim (fun (s2:(List (Int×Zax)))=>some (some s2)) (fun _=>none)))) (fun _=>none)))
theorem zgq (c:Zab) (states:List Zac):Le (VI c states) (yQ c states):=by
  unfold VI yQ
  repeat' (first | with_reducible exact Le.refl _ | with_reducible exact zgp _ | with_reducible exact ZF _ _ _ | with_reducible refine Le.bind ?_ (fun _ => ?_) | with_reducible refine Le.cond _ ?_ ?_ | with_reducible refine Le.forR (fun _ _ => ?_) _ _ | with_reducible refine Le.iter (fun _ => ?_) _ _ | with_reducible refine Le.elim (fun _ => ?_) (fun _ => ?_) _)
noncomputable def Jv (c:Zab) (states:List Zac):Option (List Zak):=
  (Option.bind (forR (σ:=(List Zak)×(Option (List (Int×Zax)))) (ρ:=Unit) (c.Zag.length:Int) (fun i1 s1=>(Option.bind (forR (σ:=(List Zak)×(Option (List (Int×Zax)))) (ρ:=Unit) (c.Zag.length:Int) (fun i2 s2=>(Option.bind (Option.bind (xL c (i1:Int) (i2:Int)) fun r1=>(bif r1 then (Option.bind (forR (σ:=(List Zak)×(Option (List (Int×Zax)))) (ρ:=(List Zak)×(Option (List (Int×Zax)))) (states.length:Int) (fun i3 s3=>(Option.bind (ze states (i3:Int)) fun e1=>(Option.bind (vE c e1 (i1:Int) (i2:Int)) fun r2=>(bif r2 then (Option.bind (bif s3.2.isSome then some s3.2 else (Option.bind (VI c states) fun r3=>some r3)) fun (v1:(Option (List (Int×Zax))))=>(Option.bind (zc5 v1 (i3:Int)) fun r4=>(Option.bind (jb 4 (-1) (i1:Int) (i2:Int) r4) fun r5=>(Option.bind (zO (α:=Zak) 56 s3.1 [r5]) fun e2=>some (.inr (e2,v1)))))) else some (.inl (s3.1,s3.2)))))) (s2.1,s2.2)) (Sum.elim (fun (s3:(List Zak)×(Option (List (Int×Zax))))=>some (s3.1,s3.2)) (fun (y1:(List Zak)×(Option (List (Int×Zax))))=>some (y1.1,y1.2)))) else some (s2.1,s2.2))) fun (v2:(List Zak)×(Option (List (Int×Zax))))=>some (.inl (v2.1,v2.2)))) (s1.1,s1.2)) (Sum.elim (fun (s2:(List Zak)×(Option (List (Int×Zax))))=>some (.inl (s2.1,s2.2))) (fun _=>none)))) ([],none)) (Sum.elim (fun (s1:(List Zak)×(Option (List (Int×Zax))))=>some s1.1) (fun _=>none)))
theorem zc6 (c:Zab) (states:List Zac):Le (Jv c states) (wF c states):=by
  unfold Jv wF
  repeat' (first | with_reducible exact Le.refl _ | with_reducible exact zgq _ _ | with_reducible exact zjA _ _ | with_reducible refine Le.bind ?_ (fun _ => ?_) | with_reducible refine Le.cond _ ?_ ?_ | with_reducible refine Le.forR (fun _ _ => ?_) _ _ | with_reducible refine Le.iter (fun _ => ?_) _ _ | with_reducible refine Le.elim (fun _ => ?_) (fun _ => ?_) _)
noncomputable def zeS (c:Zab):Option ((List Zak)×Int):=
  (Option.bind (J2 c) fun r1=>(bif (r1.2 == 0) then (Option.bind (forR (σ:=(List Zak)) (ρ:=Int) c.Zao (fun i1 s1=>(Option.bind (α:=(List Zak) ⊕ Int) (Option.bind (J0 c (i1:Int)) fun r2=>(bif (r2.2 == 0) then (Option.bind (J1 c r2.1) fun r3=>(Option.bind (ze r3 0) fun e1=>(bif decide (0≤e1) then (Option.bind (zaR r2.1 r3) fun r4=>(Option.bind (jb 1 (i1:Int) (-1) (-1) r4) fun r5=>(Option.bind (zO (α:=Zak) 56 s1 [r5]) fun e2=>some (.inl e2)))) else some (.inl s1)))) else some (.inr r2.2))) (Sum.elim (fun (v1:(List Zak))=>some (.inl v1)) (fun (y1:Int)=>some (.inr y1))))) []) (Sum.elim (fun (s1:(List Zak))=>(Option.bind (forR (σ:=(List Zak)×(List Zak)) (ρ:=Unit) (c.Zag.length:Int) (fun i2 s2=>(Option.bind (Q8 (i2:Int) r1.1 s2.1 c s2.2) fun r6=>some (.inl (r6.1,r6.2)))) (s1,[])) (Sum.elim (fun (s2:(List Zak)×(List Zak))=>(Option.bind (zO (α:=Zak) 56 s2.1 s2.2) fun e3=>(Option.bind (Jv c r1.1) fun r7=>(Option.bind (zO (α:=Zak) 56 e3 r7) fun e4=>some (e4,0))))) (fun _=>none)))) (fun (y2:Int)=>some ([],y2)))) else some ([],r1.2)))
theorem VJ (c:Zab):Le (zeS c) (jU c):=by
  unfold zeS jU
  repeat' (first | with_reducible exact Le.refl _ | with_reducible exact zaP _ | with_reducible exact zaM _ _ | with_reducible exact zaN _ _ | with_reducible exact zhT _ _ | with_reducible exact zc6 _ _ | with_reducible refine Le.bind ?_ (fun _ => ?_) | with_reducible refine Le.cond _ ?_ ?_ | with_reducible refine Le.forR (fun _ _ => ?_) _ _ | with_reducible refine Le.iter (fun _ => ?_) _ _ | with_reducible refine Le.elim (fun _ => ?_) (fun _ => ?_) _)
noncomputable def XG (c:Zab) (s:Zac) (f:Zak):Option (Bool):=
  (Option.bind (forR (σ:=Int×(List Int)×(List Bool)×(List zw)) (ρ:=Unit) (f.Zaz.length:Int) (fun i1 s1=>(Option.bind (ze f.Zaz (i1:Int)) fun e1=>(Option.bind (bif (e1 == (-1)) then some false else (Option.bind (zat c ({day:=s1.1,Zae:=s1.2.1,used:=s1.2.2.1,Zaj:=s1.2.2.2}:Zac) e1) fun r1=>some (r1 == f.Zaa))) fun v1=>(bif v1 then some (.inr ()) else (Option.bind (yC c ({day:=s1.1,Zae:=s1.2.1,used:=s1.2.2.1,Zaj:=s1.2.2.2}:Zac) e1) fun r2=>(bif (r2.2 == 0) then (Option.bind (bif ((i1:Int) == (IntKind.i64.wrap ((f.Zaz.length:Int) - 1))) then (Option.bind (kp c ({day:=s1.1,Zae:=s1.2.1,used:=s1.2.2.1,Zaj:=s1.2.2.2}:Zac) f.Zaa) fun r3=>some r3) else some false) fun v2=>(bif v2 then some (.inr ()) else some (.inl (r2.1.day,r2.1.Zae,r2.1.used,r2.1.Zaj)))) else some (.inr ()))))))) (s.day,s.Zae,s.used,s.Zaj)) (Sum.elim (fun (s1:Int×(List Int)×(List Bool)×(List zw))=>(Option.bind (kp c ({day:=s1.1,Zae:=s1.2.1,used:=s1.2.2.1,Zaj:=s1.2.2.2}:Zac) f.Zaa) fun r4=>some r4)) (fun (y1:Unit)=>some false)))
theorem zeT (c:Zab) (s:Zac) (f:Zak):Le (XG c s f) (Qe c s f):=by
  unfold XG Qe
  repeat' (first | with_reducible exact Le.refl _ | with_reducible exact ZF _ _ _ | with_reducible refine Le.bind ?_ (fun _ => ?_) | with_reducible refine Le.cond _ ?_ ?_ | with_reducible refine Le.forR (fun _ _ => ?_) _ _ | with_reducible refine Le.iter (fun _ => ?_) _ _ | with_reducible refine Le.elim (fun _ => ?_) (fun _ => ?_) _)
noncomputable def XH (c:Zab) (Zaa:Int):Option (Bool):=
  (Option.bind (J0 c Zaa) fun r1=>(Option.bind (bif (r1.2 == 0) then (Option.bind (zaO c r1.1) fun r2=>(Option.bind (ze r2 0) fun e1=>some (!e1))) else some false) fun v1=>some v1))
theorem zeU (c:Zab) (Zaa:Int):Le (XH c Zaa) (Qf c Zaa):=by
  unfold XH Qf
  repeat' (first | with_reducible exact Le.refl _ | with_reducible exact zaM _ _ | with_reducible exact zhR _ _ | with_reducible refine Le.bind ?_ (fun _ => ?_) | with_reducible refine Le.cond _ ?_ ?_ | with_reducible refine Le.forR (fun _ _ => ?_) _ _ | with_reducible refine Le.iter (fun _ => ?_) _ _ | with_reducible refine Le.elim (fun _ => ?_) (fun _ => ?_) _)
noncomputable def VK (c:Zab) (f:Zak):Option (Bool):=
  (Option.bind (J2 c) fun r1=>(bif (r1.2 == 0) then (bif (f.kind == 2) then (Option.bind (yx r1.1 f.clause) fun r2=>some r2) else (Option.bind (Option.bind (yx r1.1 f.clause) fun r3=>(bif r3 then some false else (Option.bind (vD c r1.1 f.clause) fun r4=>some r4))) fun v1=>some v1)) else some false))
theorem zgr (c:Zab) (f:Zak):Le (VK c f) (JQ c f):=by
  unfold VK JQ
  repeat' (first | with_reducible exact Le.refl _ | with_reducible exact zaP _ | with_reducible refine Le.bind ?_ (fun _ => ?_) | with_reducible refine Le.cond _ ?_ ?_ | with_reducible refine Le.forR (fun _ _ => ?_) _ _ | with_reducible refine Le.iter (fun _ => ?_) _ _ | with_reducible refine Le.elim (fun _ => ?_) (fun _ => ?_) _)
noncomputable def zbS (c:Zab) (f:Zak):Option (Bool):=
  (Option.bind (ZE c) fun r1=>(bif (r1.2 == 0) then (Option.bind (bif decide (0≤f.clause) then (bif decide (f.clause < (c.Zag.length:Int)) then some (f.Zaa == (-1)) else some false) else some false) fun v1=>(bif (f.kind == 1) then (Option.bind (bif decide (0≤f.Zaa) then (bif decide (f.Zaa < c.Zao) then (bif (f.clause == (-1)) then (bif (f.other == (-1)) then (Option.bind (XG c r1.1 f) fun r2=>(bif r2 then (Option.bind (XH c f.Zaa) fun r3=>some r3) else some false)) else some false) else some false) else some false) else some false) fun v2=>some v2) else (Option.bind (bif (f.kind == 2) then some (f.kind == 2) else some (f.kind == 3)) fun (v3:Bool)=>(bif v3 then (Option.bind (bif v1 then (bif (f.other == (-1)) then (bif ((f.Zaz.length:Int) == 0) then (Option.bind (VK c f) fun r4=>some r4) else some false) else some false) else some false) fun v4=>some v4) else (bif (f.kind == 4) then (Option.bind (bif v1 then (bif decide (f.other < 0) then some true else (bif decide ((c.Zag.length:Int)≤f.other) then some true else (Option.bind (xL c f.clause f.other) fun r5=>some (!r5)))) else some true) fun v5=>(bif v5 then some false else (Option.bind (forR (σ:=Int×(List Int)×(List Bool)×(List zw)) (ρ:=Unit) (f.Zaz.length:Int) (fun i1 s1=>(Option.bind (ze f.Zaz (i1:Int)) fun e1=>(Option.bind (yC c ({day:=s1.1,Zae:=s1.2.1,used:=s1.2.2.1,Zaj:=s1.2.2.2}:Zac) e1) fun r6=>(bif (r6.2 == 0) then some (.inl (r6.1.day,r6.1.Zae,r6.1.used,r6.1.Zaj)) else some (.inr ()))))) (r1.1.day,r1.1.Zae,r1.1.used,r1.1.Zaj)) (Sum.elim (fun (s1:Int×(List Int)×(List Bool)×(List zw))=>(Option.bind (vE c ({day:=s1.1,Zae:=s1.2.1,used:=s1.2.2.1,Zaj:=s1.2.2.2}:Zac) f.clause f.other) fun r7=>some r7)) (fun (y1:Unit)=>some false))))) else some false))))) else some false))
theorem vL (c:Zab) (f:Zak):Le (zbS c f) (qH c f):=by
  unfold zbS qH
  repeat' (first | with_reducible exact Le.refl _ | with_reducible exact XF _ | with_reducible exact zeT _ _ _ | with_reducible exact zeU _ _ | with_reducible exact zgr _ _ | with_reducible exact ZF _ _ _ | with_reducible refine Le.bind ?_ (fun _ => ?_) | with_reducible refine Le.cond _ ?_ ?_ | with_reducible refine Le.forR (fun _ _ => ?_) _ _ | with_reducible refine Le.iter (fun _ => ?_) _ _ | with_reducible refine Le.elim (fun _ => ?_) (fun _ => ?_) _)
theorem zjB:jU ({Zao:=1,Zae:=[0],Zav:=[],Zai:=[({kind:=1,Zap:=0,give:=0,to:=(-1),unit:=(-1),lot:=({num:=0,den:=1}:Ratio)}:Zaq)],Zag:=[({kind:=1,Zap:=0,act:=0,need:=1,start:=[],after:=2,Zay:=0,ZaE:=false,final:=true,pause:=(-1),ZaC:=(-1),value:=({num:=0,den:=1}:Ratio),unit:=(-1),to:=(-1),ZaB:=false}:Zan),({kind:=2,Zap:=0,act:=0,need:=1,start:=[],after:=3,Zay:=0,ZaE:=false,final:=true,pause:=(-1),ZaC:=(-1),value:=({num:=0,den:=1}:Ratio),unit:=(-1),to:=(-1),ZaB:=false}:Zan)],Zat:=5,off:=[]}:Zab)=some (([({kind:=1,Zaa:=0,clause:=(-1),other:=(-1),Zaz:=[(-1),(-1)]}:Zak),({kind:=4,Zaa:=(-1),clause:=0,other:=1,Zaz:=[]}:Zak)],0):List Zak×Int):=VJ _ _ (by kernel_rfl)
theorem zjC:jU ({Zao:=1,Zae:=[0],Zav:=[],Zai:=[({kind:=1,Zap:=0,give:=0,to:=(-1),unit:=(-1),lot:=({num:=0,den:=1}:Ratio)}:Zaq)],Zag:=[({kind:=1,Zap:=0,act:=0,need:=1,start:=[],after:=2,Zay:=0,ZaE:=false,final:=true,pause:=(-1),ZaC:=(-1),value:=({num:=0,den:=1}:Ratio),unit:=(-1),to:=(-1),ZaB:=false}:Zan),({kind:=2,Zap:=0,act:=0,need:=1,start:=[],after:=1,Zay:=0,ZaE:=false,final:=true,pause:=(-1),ZaC:=(-1),value:=({num:=0,den:=1}:Ratio),unit:=(-1),to:=(-1),ZaB:=false}:Zan)],Zat:=5,off:=[]}:Zab)=some (([],0):List Zak×Int):=VJ _ _ (by kernel_rfl)
theorem zjD:jU ({Zao:=1,Zae:=[0],Zav:=[],Zai:=[({kind:=1,Zap:=0,give:=0,to:=(-1),unit:=(-1),lot:=({num:=0,den:=1}:Ratio)}:Zaq)],Zag:=[({kind:=1,Zap:=0,act:=0,need:=1,start:=[],after:=2,Zay:=0,ZaE:=false,final:=true,pause:=(-1),ZaC:=(-1),value:=({num:=0,den:=1}:Ratio),unit:=(-1),to:=(-1),ZaB:=false}:Zan),({kind:=2,Zap:=0,act:=0,need:=1,start:=[({clause:=0,is:=4}:CondT)],after:=3,Zay:=0,ZaE:=false,final:=true,pause:=(-1),ZaC:=(-1),value:=({num:=0,den:=1}:Ratio),unit:=(-1),to:=(-1),ZaB:=false}:Zan)],Zat:=5,off:=[]}:Zab)=some (([({kind:=2,Zaa:=(-1),clause:=1,other:=(-1),Zaz:=[]}:Zak)],0):List Zak×Int):=VJ _ _ (by kernel_rfl)
theorem zjE:qH ({Zao:=1,Zae:=[0],Zav:=[],Zai:=[({kind:=1,Zap:=0,give:=0,to:=(-1),unit:=(-1),lot:=({num:=0,den:=1}:Ratio)}:Zaq)],Zag:=[({kind:=1,Zap:=0,act:=0,need:=1,start:=[],after:=2,Zay:=0,ZaE:=false,final:=true,pause:=(-1),ZaC:=(-1),value:=({num:=0,den:=1}:Ratio),unit:=(-1),to:=(-1),ZaB:=false}:Zan),({kind:=2,Zap:=0,act:=0,need:=1,start:=[],after:=3,Zay:=0,ZaE:=false,final:=true,pause:=(-1),ZaC:=(-1),value:=({num:=0,den:=1}:Ratio),unit:=(-1),to:=(-1),ZaB:=false}:Zan)],Zat:=5,off:=[]}:Zab) ({kind:=1,Zaa:=0,clause:=(-1),other:=(-1),Zaz:=[(-1),(-1)]}:Zak)=some true:=vL _ _ _ (by kernel_rfl)
theorem zjF:qH ({Zao:=1,Zae:=[0],Zav:=[],Zai:=[({kind:=1,Zap:=0,give:=0,to:=(-1),unit:=(-1),lot:=({num:=0,den:=1}:Ratio)}:Zaq)],Zag:=[({kind:=1,Zap:=0,act:=0,need:=1,start:=[],after:=2,Zay:=0,ZaE:=false,final:=true,pause:=(-1),ZaC:=(-1),value:=({num:=0,den:=1}:Ratio),unit:=(-1),to:=(-1),ZaB:=false}:Zan),({kind:=2,Zap:=0,act:=0,need:=1,start:=[],after:=3,Zay:=0,ZaE:=false,final:=true,pause:=(-1),ZaC:=(-1),value:=({num:=0,den:=1}:Ratio),unit:=(-1),to:=(-1),ZaB:=false}:Zan)],Zat:=5,off:=[]}:Zab) ({kind:=4,Zaa:=(-1),clause:=0,other:=1,Zaz:=[]}:Zak)=some true:=vL _ _ _ (by kernel_rfl)
theorem zjG:qH ({Zao:=1,Zae:=[0],Zav:=[],Zai:=[({kind:=1,Zap:=0,give:=0,to:=(-1),unit:=(-1),lot:=({num:=0,den:=1}:Ratio)}:Zaq)],Zag:=[({kind:=1,Zap:=0,act:=0,need:=1,start:=[],after:=2,Zay:=0,ZaE:=false,final:=true,pause:=(-1),ZaC:=(-1),value:=({num:=0,den:=1}:Ratio),unit:=(-1),to:=(-1),ZaB:=false}:Zan),({kind:=2,Zap:=0,act:=0,need:=1,start:=[({clause:=0,is:=4}:CondT)],after:=3,Zay:=0,ZaE:=false,final:=true,pause:=(-1),ZaC:=(-1),value:=({num:=0,den:=1}:Ratio),unit:=(-1),to:=(-1),ZaB:=false}:Zan)],Zat:=5,off:=[]}:Zab) ({kind:=2,Zaa:=(-1),clause:=1,other:=(-1),Zaz:=[]}:Zak)=some true:=vL _ _ _ (by kernel_rfl)
theorem zjH:qH ({Zao:=1,Zae:=[0],Zav:=[],Zai:=[({kind:=1,Zap:=0,give:=0,to:=(-1),unit:=(-1),lot:=({num:=0,den:=1}:Ratio)}:Zaq)],Zag:=[({kind:=1,Zap:=0,act:=0,need:=1,start:=[],after:=2,Zay:=0,ZaE:=false,final:=true,pause:=(-1),ZaC:=(-1),value:=({num:=0,den:=1}:Ratio),unit:=(-1),to:=(-1),ZaB:=false}:Zan),({kind:=2,Zap:=0,act:=0,need:=1,start:=[],after:=1,Zay:=0,ZaE:=false,final:=true,pause:=(-1),ZaC:=(-1),value:=({num:=0,den:=1}:Ratio),unit:=(-1),to:=(-1),ZaB:=false}:Zan)],Zat:=5,off:=[]}:Zab) ({kind:=1,Zaa:=0,clause:=(-1),other:=(-1),Zaz:=[(-1),(-1)]}:Zak)=some false:=vL _ _ _ (by kernel_rfl)
end Go.Proofs.YtlpmnmbebkdocaaGreatDoor
