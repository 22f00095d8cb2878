/-
  region.Ranks: all of it.
  A clause that has ended stays as it is; a breach stays a breach.
  RegionBreach: a breach is never left.
  What can be forced from a position, told without an arena.
  region.Safe and strategy's functions, told by positions.
  strategy.Advise: what it returns.
  Traces; what one step does when a party follows the advice.
  strategy.Follow: what it returns.
  trap.edges and trap.way: the shortest way to a state.
  trap's questions about clauses: dead, unused, opposed, clash.
  trap.clashes: what it returns.
  RegionForced: where there is a rank, the others can force a breach in as many moves.
  trap.play: the steps by which the others force a party into breach.
  trap.Find: what it returns.
  Functions of the program as the kernel reckons them: with fuel, and texts of small numbers. Printed by mkheads.py.
  The fixed example of the laws of layer 21: 'head' returns true. Printed by mkheads.py.
  One of the calls of the fixed example of the laws of layer 21. Printed by mkheads.py.
-/
import Derived.Test.YtlpmnmbebkdocaaGreatDoorTS12
namespace Go.Proofs.YtlpmnmbebkdocaaGreatDoor
open Go.RowKit
set_option linter.unusedSimpArgs false
set_option linter.unusedVariables false
set_option maxRecDepth 100000
section
section
variable {c:Zab} {Zaa:Int} {p:Zah} {a:ZaF}
def xv (G:Gm) (i:Nat):Bool:=G.own i&&(!(G.lost i)&&(G.succ i).isEmpty)
def r2 (G:Gm) (i j:Nat):Int:=if G.lost j=true then 0 else if xv G j=true∧j < i then 1 else -1
def K2 (G:Gm) (i:Nat):List Nat:=(List.range G.n).filter G.lost++(List.range i).filter (xv G)
structure L3 (G:Gm) (i:Nat) (s:List Int×List Int):Prop where
  lr:s.1.length=G.n
  r:∀ j,j < G.n→at_ s.1 j=r2 G i j
  k:s.2=cst (K2 G i)
theorem zjr (G:Gm) (i:Nat):(K2 G i).length≤G.n+i:=by
  unfold K2
  rw [List.length_append]
  have h1:=List.length_filter_le G.lost (List.range G.n)
  have h2:=List.length_filter_le (xv G) (List.range i)
  rw [List.length_range] at h1 h2
  omega
theorem zeG {G:Gm} {r o:Nat→Int} (hr:∀ j,j < G.n→r j=r2 G G.n j) (ho:∀ j,j < G.n→o j=((G.succ j).length:Int)):BInv G r o [] (K2 G G.n)∧Bnd G r (K2 G G.n).length:=by
  have tl:∀ j,xv G j=true→G.own j=true∧G.lost j=false∧G.succ j=[]:=fun j h=>by
    simpa [xv,Bool.and_eq_true,List.isEmpty_iff] using h
  have rl:∀ j,j < G.n→G.lost j=true→r j=0:=fun j hj h=>by rw [hr j hj];unfold r2;rw [if_pos h]
  have rt:∀ j,j < G.n→xv G j=true→r j=1:=fun j hj h=>by
    rw [hr j hj];unfold r2;rw [if_neg (by rw [(tl j h).2.1];simp),if_pos ⟨h,hj⟩]
  have rn:∀ j,j < G.n→G.lost j=false→xv G j=false→r j = -1:=fun j hj h h2=>by
    rw [hr j hj];unfold r2;rw [if_neg (by rw [h];simp),if_neg (by rw [h2];simp)]
  have three:∀ j,j < G.n→(G.lost j=true∧r j=0)∨(xv G j=true∧G.lost j=false∧r j=1)∨(G.lost j=false∧xv G j=false∧r j = -1):=fun j hj=>by
    cases h:G.lost j with
    | true=>exact .inl ⟨rfl,rl j hj h⟩
    | false=>cases h2:xv G j with
      | true=>exact .inr (.inl ⟨rfl,rfl,rt j hj h2⟩)
      | false=>exact .inr (.inr ⟨rfl,rfl,rn j hj h h2⟩)
  have hm:∀ j,j∈K2 G G.n↔j < G.n∧(G.lost j=true∨xv G j=true):=fun j=>by
    unfold K2
    rw [List.mem_append,List.mem_filter,List.mem_filter,List.mem_range]
    constructor
    · rintro (⟨h1,h2⟩ | ⟨h1,h2⟩)
      · exact ⟨h1,.inl h2⟩
      · exact ⟨h1,.inr h2⟩
    · rintro ⟨h1,h2 | h2⟩
      · exact .inl ⟨h1,h2⟩
      · exact .inr ⟨h1,h2⟩
  have hle:∀ x∈K2 G G.n,r x≤1∧0≤r x:=fun x hx=>by
    obtain ⟨h1,h2⟩:=(hm x).1 hx
    rcases three x h1 with ⟨_,h⟩ | ⟨_,_,h⟩ | ⟨h3,h4,h⟩
    · omega
    · omega
    · rw [h3,h4] at h2;simp at h2
  refine ⟨⟨⟨?_,fun x hx=>((hm x).1 hx).1,fun i hi => ?_,fun i hi => ?_,?_,fun i hi => ?_,fun i hi => ?_,fun i hi h1 h2 h3 => ?_,fun i hi h1 h2 h3 => ?_,fun i hi h1 h2 h3 => ?_,fun i hi h1 h2 h3=>⟨fun t ht h=>(by cases h),rfl⟩⟩,fun q Q' hq x hx => ?_⟩,fun i hi => ?_⟩
  · rw [List.nil_append]
    unfold K2
    refine List.nodup_append.2 ⟨List.nodup_range.sublist List.filter_sublist,List.nodup_range.sublist List.filter_sublist,fun x hx y hy e => ?_⟩
    subst e
    have h1:=(List.mem_filter.1 hx).2
    have h2:=(tl x (List.mem_filter.1 hy).2).2.1
    rw [h1] at h2;cases h2
  · rw [List.nil_append,hm i]
    rcases three i hi with ⟨h1,h⟩ | ⟨h1,_,h⟩ | ⟨h3,h4,h⟩
    · rw [h];simp [hi,h1]
    · rw [h];simp [hi,h1]
    · rw [h];simp [h3,h4]
  · rcases three i hi with ⟨_,h⟩ | ⟨_,_,h⟩ | ⟨_,_,h⟩<;>omega
  · rw [List.nil_append]
    unfold K2
    refine List.pairwise_append.2 ⟨?_,?_,fun x hx y hy => ?_⟩
    · refine List.pairwise_of_forall_mem_list fun x hx y hy => ?_
      have h1:=(List.mem_filter.1 hx);have h2:=(List.mem_filter.1 hy)
      rw [rl x (List.mem_range.1 h1.1) h1.2,rl y (List.mem_range.1 h2.1) h2.2];omega
    · refine List.pairwise_of_forall_mem_list fun x hx y hy => ?_
      have h1:=(List.mem_filter.1 hx);have h2:=(List.mem_filter.1 hy)
      rw [rt x (List.mem_range.1 h1.1) h1.2,rt y (List.mem_range.1 h2.1) h2.2];omega
    · have h1:=(List.mem_filter.1 hx);have h2:=(List.mem_filter.1 hy)
      rw [rl x (List.mem_range.1 h1.1) h1.2,rt y (List.mem_range.1 h2.1) h2.2];omega
  · rw [ho i hi]
    have:(G.succ i).countP (vn [])=(G.succ i).length:=List.countP_eq_length.2 fun x _=>by simp [vn]
    rw [this];simp
  · rcases three i hi with ⟨h1,h⟩ | ⟨_,h1,h⟩ | ⟨h1,_,h⟩<;>rw [h,h1]<;>simp
  · rcases three i hi with ⟨h4,h⟩ | ⟨h4,_,h⟩ | ⟨_,_,h⟩
    · rw [h2] at h4;cases h4
    · have h5:=(tl i h4).2.2
      rw [ho i hi,h5,h]
      exact ⟨rfl,fun t ht=>(by cases ht),.inl ⟨rfl,rfl⟩⟩
    · exact absurd h h3
  · rw [ho i hi]
    intro h5
    have h6:G.succ i=[]:=List.eq_nil_of_length_eq_zero (by omega)
    have h7:=rt i hi (by simp [xv,h1,h2,h6])
    omega
  · rcases three i hi with ⟨h4,h⟩ | ⟨h4,_,h⟩ | ⟨_,_,h⟩
    · rw [h2] at h4;cases h4
    · have h5:=(tl i h4).1;rw [h1] at h5;cases h5
    · exact absurd h h3
  · rw [List.nil_append] at hx
    have h1:=(hle x hx).1
    have h2:=(hle q (by rw [hq];simp)).2
    omega
  · rcases three i hi with ⟨_,h⟩ | ⟨h1,_,h⟩ | ⟨_,_,h⟩
    · omega
    · have:0 < (K2 G G.n).length:=List.length_pos_of_mem ((hm i).2 ⟨hi,.inr h1⟩)
      omega
    · omega
structure QI (G:Gm) (bef:List (List Int)) (s:Int×Bool×List Int×List Int×List Int×Int):Prop where
  lr:s.2.2.1.length=G.n
  lo:s.2.2.2.1.length=G.n
  inv:∃ P Q,BInv G (at_ s.2.2.1) (at_ s.2.2.2.1) P Q∧Bnd G (at_ s.2.2.1) (P++Q).length∧s.2.2.2.2.1=cst (P++Q)∧((s.2.1=false∧Q=[]∧s.2.2.2.2.2=(P.length:Int))∨(s.2.1=true∧∃ u Q',Q=u::Q'∧s.1=(u:Int)∧s.2.2.2.2.2=(P.length:Int)+1))
theorem W4 {l:List Nat} {k:Nat} (hk:k < l.length) (x:Nat):(l.take (k+1)).count x=upd (fun y=>(l.take k).count y) l[k] ((l.take k).count l[k]+1) x:=by
  rw [List.take_succ_eq_append_getElem hk,List.count_append]
  unfold upd
  by_cases e:x=l[k]
  · rw [if_pos e,e];simp
  · rw [if_neg e,List.count_cons_of_ne (fun h=>e h.symm)];simp
theorem zeH {l:List Nat} {k:Nat} (hk:k < l.length):(fun y=>(l.take (k+1)).count y)=upd (fun y=>(l.take k).count y) l[k] ((l.take k).count l[k]+1):=funext fun x=>W4 hk x
theorem zeI {G:Gm} {bef:List (List Int)} {P Q:List Nat} {r o:List Int} (hn:G.n≤1500) (hr:r.length=G.n) (ho:o.length=G.n) (h:BInv G (at_ r) (at_ o) P Q) (hb:Bnd G (at_ r) (P++Q).length) :
    ∃ z:Int×Bool×Int,x8 (cst (P++Q)) (P.length:Int)=some z∧QI G bef (z.1,z.2.1,r,o,cst (P++Q),z.2.2)∧((z.2.1=false∧z.2.2=(P.length:Int))∨(z.2.1=true∧z.2.2=(P.length:Int)+1))∧P.length≤G.n:=by
  have hK:(P++Q).length≤G.n:=by
    have:=Qq (L2:=List.range G.n) h.core.nd (fun y hy=>List.mem_range.2 (h.core.lt y hy))
    rwa [List.length_range] at this
  refine ⟨_,zhI (by omega) (by simp),?_⟩
  cases Q with
  | nil=>
    rw [List.append_nil,List.getElem?_eq_none (Nat.le_refl _)]
    exact ⟨⟨hr,ho,P,[],h,hb,by rw [List.append_nil],.inl ⟨rfl,rfl,rfl⟩⟩,.inl ⟨rfl,rfl⟩,by simpa using hK⟩
  | cons u Q'=>
    rw [List.getElem?_append_right (Nat.le_refl _),Nat.sub_self]
    exact ⟨⟨hr,ho,P,u::Q',h,hb,rfl,.inr ⟨rfl,u,Q',rfl,rfl,rfl⟩⟩,.inr ⟨rfl,rfl⟩,by rw [List.length_append] at hK;omega⟩
theorem YD (hc:c.Ok) (A:ArOk c Zaa p a):Ret (vv c a) (fun r=>r.length=a.Zau.length∧yp (gm c a) (at_ r)∧∀ i,i < a.Zau.length→at_ r i≤1500):=by
  have hn:a.Zau.length≤1500:=A.F.inv.len
  have hgn:(gm c a).n=a.Zau.length:=rfl
  unfold vv
  refine Ret.bindE (zaH hc A) ?_
  refine Ret.ite (fun _ => ?_) (fun h=>by cases h)
  refine Ret.bindE (J0 hn (by omega)) ?_
  refine Ret.bindE (J0 hn (by omega)) ?_
  refine Ret.bindE (J0 hn (by omega)) ?_
  refine Ret.bind (P:=fun o:(List Int×List Int×List (List Int)×List Int) ⊕ Unit=>∃ s,o=.inl s∧L2 (gm c a) a.Zau.length s) (Ret.forL (L2 (gm c a)) (by omega) ?_ (fun i s hi hs => ?_) (fun s h=>⟨s,rfl,h⟩)) ?_
  · refine ⟨by simp [hgn],by simp [hgn],⟨by simp [hgn],fun t ht=>⟨[],?_,by simp,fun x => ?_⟩⟩,fun j hj=>by omega,fun j hj=>by omega,rfl⟩
    · rw [List.getElem?_replicate,if_pos (by rw [←hgn];exact ht)];rfl
    · simp
  · obtain ⟨R,O,B,K⟩:=s
    obtain ⟨hlr,hlo,hbef,hr,ho,hk⟩:=hs
    simp only at hlr hlo hbef hr ho hk ⊢
    obtain ⟨T,hT,hM⟩:=A.mv hi
    have hTl:=A.len hc hi hT
    have hsucc:=A.succ hi hT
    have hlostE:(gm c a).lost i=jA c a.Zau[i].state a.Zaa:=by
      show (match a.Zau[i]? with | some q=>jA c q.state a.Zaa | none=>false)=_
      rw [List.getElem?_eq_getElem hi]
    refine Ret.bind (P:=fun v=>L2 (gm c a) (i+1) v) ?_ (fun v hv=>Ret.some hv)
    refine Ret.bindE (zl (List.getElem?_eq_getElem hi)) ?_
    refine Ret.bindE (zl hT) ?_
    refine Ret.bindE (zQ hi) ?_
    refine Ret.bindE (xB (by omega)) ?_
    refine Ret.bindE (zQ hi) ?_
    refine Ret.bindE (xB (by omega)) ?_
    refine Ret.bindE (zl hT) ?_
    refine Ret.bind (P:=fun o:List (List Int) ⊕ Unit=>∃ b,o=.inl b∧L1 (gm c a) i T.length b) (Ret.forL (fun k b=>L1 (gm c a) i k b) (by omega) hbef (fun k b hk2 hb => ?_) (fun b h=>⟨b,rfl,h⟩)) ?_
    · have hto:=A.to hi hT (List.getElem_mem hk2)
      refine Ret.bindE (zl (List.getElem?_eq_getElem hk2)) ?_
      have h1:(gm c a).succ i=T.map fun m=>m.to.toNat:=hsucc
      have h2:=hb.step (G:=gm c a) hn hi (by omega) (to:=T[k].to.toNat) (by rw [h1,List.getElem?_map,List.getElem?_eq_getElem hk2];rfl) (by rw [hgn];omega)
      rw [Int.toNat_of_nonneg hto.1] at h2
      exact Ret.bind h2 (fun v hv=>Ret.some hv)
    · rintro _ ⟨b,rfl,hb⟩
      simp only [Sum.elim_inl]
      have hb':=hb.next (by rw [hsucc,List.length_map]) hTl
      have hR1:at_ (R.set i (-1))=upd (at_ R) i (-1):=kx (by omega) _
      have hO1:at_ (O.set i (T.length:Int))=upd (at_ O) i (T.length:Int):=kx (by omega) _
      have hoo:∀ j,j < i+1→upd (at_ O) i (T.length:Int) j=(((gm c a).succ j).length:Int):=fun j hj=>by
        unfold upd
        by_cases e:j=i
        · rw [if_pos e,e,hsucc,List.length_map]
        · rw [if_neg e];exact ho j (by omega)
      have hrange:(List.range (i+1)).filter (gm c a).lost=(List.range i).filter (gm c a).lost++(bif (gm c a).lost i then [i] else []):=by
        rw [List.range_succ,List.filter_append]
        cases h:(gm c a).lost i<;>simp [h]
      refine Ret.bindE (zjq hc (A.F.inv.vs _ (List.getElem_mem hi)) a.Zaa) ?_
      refine Ret.ite (fun hl => ?_) (fun hl => ?_)
      · rw [←hlostE] at hl
        refine Ret.bindE (zQ hi) ?_
        refine Ret.bindE (List.getElem?_set_self (by omega)) ?_
        have hK:K.length≤1500:=by
          rw [hk,yS]
          have:=List.length_filter_le (gm c a).lost (List.range i)
          rw [List.length_range] at this;omega
        refine Ret.bindE (zaI 0 (by omega)) ?_
        refine Ret.some ⟨by simp [hlr],by simp [hlo],hb',fun j hj => ?_,fun j hj => ?_,?_⟩
        · simp only
          rw [List.set_set,kx (by omega)]
          unfold upd
          by_cases e:j=i
          · rw [if_pos e,e,if_pos hl]
          · rw [if_neg e];exact hr j (by omega)
        · simp only;rw [hO1];exact hoo j hj
        · simp only;rw [hk,hrange,hl,cond_true,JZ];rfl
      · rw [←hlostE] at hl
        refine Ret.some ⟨by simp [hlr],by simp [hlo],hb',fun j hj => ?_,fun j hj => ?_,?_⟩
        · simp only
          rw [hR1]
          unfold upd
          by_cases e:j=i
          · rw [if_pos e,e,if_neg (by rw [hl];simp)]
          · rw [if_neg e];exact hr j (by omega)
        · simp only;rw [hO1];exact hoo j hj
        · simp only;rw [hk,hrange,hl,ZaH,List.append_nil]
  · rintro _ ⟨⟨R,O,B,K⟩,rfl,hlr,hlo,hbef,hr,ho,hk⟩
    simp only [Sum.elim_inl] at hlr hlo hbef hr ho hk ⊢
    refine Ret.bind (P:=fun o:(List Int×List Int) ⊕ Unit=>∃ s,o=.inl s∧L3 (gm c a) a.Zau.length s) (Ret.forL (L3 (gm c a)) (by omega) ?_ (fun i s hi hs => ?_) (fun s h=>⟨s,rfl,h⟩)) ?_
    · refine ⟨hlr,fun j hj => ?_,?_⟩
      · rw [hr j hj];unfold r2
        split
        · rfl
        · rw [if_neg (by omega)]
      · simp only;rw [hk];unfold K2;rw [List.range_zero,List.filter_nil,List.append_nil];rfl
    · obtain ⟨R1,K1⟩:=s
      obtain ⟨h1,h2,h3⟩:=hs
      simp only at h1 h2 h3 ⊢
      have hown:(gm c a).own i=a.Zau[i].own:=by
        show (match a.Zau[i]? with | some q=>q.own | none=>false)=_
        rw [List.getElem?_eq_getElem hi]
      have hsame:xv (gm c a) i=false→L3 (gm c a) (i+1) (R1,K1):=fun ht=>by
        refine ⟨h1,fun j hj => ?_,?_⟩
        · simp only;rw [h2 j hj];unfold r2
          split
          · rfl
          · by_cases e:j=i
            · subst e;rw [if_neg (by rw [ht];simp),if_neg (by rw [ht];simp)]
            · by_cases e2:xv (gm c a) j=true∧j < i
              · rw [if_pos e2,if_pos ⟨e2.1,by omega⟩]
              · rw [if_neg e2,if_neg (fun h=>e2 ⟨h.1,by have:=h.2;omega⟩)]
        · simp only;rw [h3];unfold K2;rw [List.range_succ,List.filter_append];simp [ht]
      refine Ret.bind (P:=fun v=>L3 (gm c a) (i+1) v) ?_ (fun v hv=>Ret.some hv)
      refine Ret.bindE (zl (List.getElem?_eq_getElem hi)) ?_
      have hv3:(bif a.Zau[i].own then (Option.bind (zk a.Zau.length (i:Int)) fun k7=>(Option.bind (O[k7]?) fun e9=>(bif (e9 == 0) then (Option.bind (zk a.Zau.length (i:Int)) fun k8=>(Option.bind (R1[k8]?) fun e10=>some (e10 == (-1)))) else some false))) else some false)=some (xv (gm c a) i):=by
        rw [zQ hi]
        simp only [ZaI]
        rw [xB (by omega:i < O.length),xB (by omega:i < R1.length)]
        simp only [ZaI]
        rw [ho i hi,h2 i hi,←hown]
        unfold xv r2
        cases e1:(gm c a).own i with
        | false=>rfl
        | true=>
          cases e2:(gm c a).succ i with
          | cons x l=>
            rw [beq_eq_false_iff_ne.2 (by simp;omega)];simp
          | nil=>
            cases e3:(gm c a).lost i with
            | true=>rfl
            | false=>simp
      refine Ret.bindE hv3 ?_
      refine Ret.ite (fun ht => ?_) (fun ht=>Ret.some (hsame ht))
      have hK1:K1.length≤4000:=by
        rw [h3,yS]
        have:=zjr (gm c a) i
        omega
      refine Ret.bindE (W3 0 hi h1 hK1) ?_
      refine Ret.some ⟨by simp [h1],fun j hj => ?_,?_⟩
      · simp only
        rw [kx (by omega)]
        unfold upd
        by_cases e:j=i
        · subst e
          have h4:(gm c a).lost j=false:=by
            simp only [xv,Bool.and_eq_true,Bool.not_eq_true'] at ht;exact ht.2.1
          rw [if_pos rfl];unfold r2;rw [if_neg (by rw [h4];simp),if_pos ⟨ht,by omega⟩]
        · rw [if_neg e,h2 j hj];unfold r2
          split
          · rfl
          · by_cases e2:xv (gm c a) j=true∧j < i
            · rw [if_pos e2,if_pos ⟨e2.1,by omega⟩]
            · rw [if_neg e2,if_neg (fun h=>e2 ⟨h.1,by have:=h.2;omega⟩)]
      · simp only;rw [h3];unfold K2;rw [List.range_succ,List.filter_append,←List.append_assoc,JZ];simp [ht,cst]
    · rintro _ ⟨⟨R1,K1⟩,rfl,h1,h2,h3⟩
      simp only [Sum.elim_inl] at h1 h2 h3 ⊢
      obtain ⟨hB,hbd⟩:=zeG (G:=gm c a) (r:=at_ R1) (o:=at_ O) h2 ho
      have hQ0:=zeI (bef:=B) (P:=[]) hn h1 hlo hB (by rw [List.nil_append];exact hbd)
      refine Ret.bind (P:=fun v:List Int=>v.length=(gm c a).n∧yp (gm c a) (at_ v)∧∀ i,i < (gm c a).n→at_ v i≤1500) ?_ ?_
      · obtain ⟨z,hz,hq,_⟩:=hQ0
        have hK1:K1=cst ([]++K2 (gm c a) (gm c a).n):=by rw [h3,List.nil_append];rfl
        rw [hK1]
        refine Ret.bindE hz ?_
        refine Ret.bind (P:=fun y:List Int=>y.length=(gm c a).n∧yp (gm c a) (at_ y)∧∀ i,i < (gm c a).n→at_ y i≤1500) (Ret.iter (QI (gm c a) B) (fun s=>2*((gm c a).n+2 - s.2.2.2.2.2.toNat)+(bif s.2.1 then 1 else 0)) hq (fun s hs => ?_)) (fun y hy=>Ret.some hy)
        obtain ⟨to,ok,R2,O2,K3,nx⟩:=s
        obtain ⟨g1,g2,P,Q,g3,g4,g5,g6⟩:=hs
        simp only at g1 g2 g3 g4 g5 g6 ⊢
        have hKn:(P++Q).length≤(gm c a).n:=by
          have:=Qq (L2:=List.range (gm c a).n) g3.core.nd (fun y hy=>List.mem_range.2 (g3.core.lt y hy))
          rwa [List.length_range] at this
        rcases g6 with ⟨rfl,rfl,g7⟩ | ⟨rfl,u,Q',rfl,rfl,rfl⟩
        · refine Ret.ite (fun h=>by cases h) (fun _ => ?_)
          exact Ret.some ⟨g1,(g3.done A.closed).ok A.closed,fun i hi=>by have:=g4 i hi;omega⟩
        · refine Ret.ite (fun _ => ?_) (fun h=>by cases h)
          have E:=g3.enter
          obtain ⟨_,hun,_⟩:=E.core.split
          obtain ⟨l,l1,l2,l3⟩:=hbef.row u hun
          have hcount:∀ x,x < (gm c a).n→l.count x=((gm c a).succ x).count u:=fun x hx=>by rw [l3 x,if_pos (by rw [←hgn];exact hx)]
          have hlmem:∀ x∈l,x < (gm c a).n:=fun x hx=>by
            have h5:0 < l.count x:=List.count_pos_iff.2 hx
            rw [l3 x] at h5
            split at h5
            · rename_i h6;exact h6
            · split at h5
              · simp at h5
              · omega
          refine Ret.bindE (zQ hun) ?_
          refine Ret.bindE l1 ?_
          refine Ret.bind (P:=fun o:(List Int×List Int×List Int) ⊕ Unit=>∃ s5,o=.inl s5∧s5.1.length=(gm c a).n∧s5.2.1.length=(gm c a).n∧∃ Q2,s5.2.2=cst (P++u::Q2)∧EInv (gm c a) (at_ s5.1) (at_ s5.2.1) P u Q2 (fun y=>l.count y)∧Bnd (gm c a) (at_ s5.1) (P++u::Q2).length) ?_ ?_
          · rw [yS]
            refine Ret.forL (fun k s5=>s5.1.length=(gm c a).n∧s5.2.1.length=(gm c a).n∧∃ Q2,s5.2.2=cst (P++u::Q2)∧EInv (gm c a) (at_ s5.1) (at_ s5.2.1) P u Q2 (fun y=>(l.take k).count y)∧Bnd (gm c a) (at_ s5.1) (P++u::Q2).length) (by omega) ⟨g1,g2,Q',g5,by simpa using E,g4⟩ (fun k s5 hk hs5 => ?_) (fun s5 h=>⟨s5,rfl,by rw [List.take_length] at h;exact h⟩)
            obtain ⟨R4,O4,K4⟩:=s5
            obtain ⟨i1,i2,Q2,i3,i4,i5⟩:=hs5
            simp only at i1 i2 i3 i4 i5 ⊢
            have hx:=hlmem _ (List.getElem_mem hk)
            refine Ret.bindE (zl (e:=(l[k]:Int)) (by unfold cst;rw [List.getElem?_map,List.getElem?_eq_getElem hk];rfl)) ?_
            rw [i3]
            refine Ret.bind (zgd hc A _ i1 i2 i4 i5 hx ?_) (fun z hz => ?_)
            · have h6:=W4 hk l[k]
              unfold upd at h6
              rw [if_pos rfl] at h6
              have h7:(l.take (k+1)).count l[k]≤l.count l[k]:=(List.take_sublist _ _).count_le _
              rw [hcount _ hx] at h7
              show (l.take k).count l[k] < _
              omega
            · obtain ⟨j1,j2,Q3,j3,j4,j5⟩:=hz
              refine Ret.some ⟨j2,j1,Q3,j3,?_,j5⟩
              simp only
              rw [zeH hk];exact j4
          · rintro _ ⟨⟨R4,O4,K4⟩,rfl,i1,i2,Q2,i3,i4,i5⟩
            simp only [Sum.elim_inl] at i1 i2 i3 i4 i5 ⊢
            have hB2:=i4.leave hcount
            have hPQ:P++[u]++Q2=P++u::Q2:=by simp
            obtain ⟨z2,hz2,hq2,hz3,hz4⟩:=zeI (bef:=B) (P:=P++[u]) (Q:=Q2) hn i1 i2 hB2 (by rw [hPQ];exact i5)
            rw [hPQ] at hz2 hq2
            rw [i3]
            have hnx:((P++[u]).length:Int)=(P.length:Int)+1:=by simp
            rw [hnx] at hz2
            refine Ret.bindE hz2 ?_
            refine Ret.some ⟨hq2,?_⟩
            simp only [cond_true]
            rw [List.length_append] at hz3 hz4
            simp only [List.length_cons,List.length_nil] at hz3 hz4
            rcases hz3 with ⟨e1,e2⟩ | ⟨e1,e2⟩
            · rw [e1,e2,ZaH];omega
            · rw [e1,e2,cond_true];omega
      · intro v hv
        refine Ret.bindE (xP (hgn.symm.trans hv.1.symm)) ?_
        exact Ret.some hv
end
end
theorem StartP.get {c:Zab} {hs:List Int} {ms r:List zw} (h:StartP c hs ms r) {i:Nat} {m:zw} (hi:i < c.Zaf.length) (hm:ms[i]?=some m) (h0:m.Zan≠0):r[i]?=some m:=by
  have hl:i < r.length:=by rw [h.ok.1];exact hi
  rw [List.getElem?_eq_getElem hl]
  rcases h.rel i m r[i] hm (List.getElem?_eq_getElem hl) with e | ⟨e,_⟩
  · rw [e]
  · exact absurd e h0
theorem zbl (c:Zab) (q:Zah):target c q (-2)={state:=q.state,own:=false}:=if_pos rfl
theorem zbm (c:Zab) (q:Zah) {m:Int} (h : -1≤m):target c q m={state:=qj c q.state m,own:=true}:=if_neg (by omega)
theorem zge {c:Zab} {Zaa:Int} {p:Zah} {r:ZaF×Int} (h:x6 c Zaa p=some r) (hr:r.2≠0):r.1=W2:=by
  unfold x6 at h
  obtain ⟨b,_,h⟩:=jQ h
  cases b with
  | false=>cases h;rfl
  | true=>
    rw [cond_true] at h
    obtain ⟨_,_,h⟩:=jQ h
    obtain ⟨_,_,h⟩:=jQ h
    obtain ⟨o,_,h⟩:=jQ h
    cases o with
    | inl s=>cases h;exact absurd rfl hr
    | inr u=>cases h;rfl
theorem zeJ {c:Zab} {Zaa:Int} {r:ZaF×Int} (h:jg c Zaa=some r) (hr:r.2≠0):r.1=W2:=by
  unfold jg at h
  obtain ⟨s,_,h⟩:=jQ h
  cases hs:(s.2 == 0) with
  | true=>
    rw [hs,cond_true] at h
    obtain ⟨f,hf,h⟩:=jQ h
    cases h
    exact zge hf hr
  | false=>rw [hs] at h;cases h;rfl
def zjs (c:Zab) (Zaa:Int) (r:ZaF×Int):Prop:=(r.2≠0∧r.1=W2)∨(r.2=0∧∃ s0,qB c=some (s0,0)∧VS c s0∧ArOk c Zaa {state:=s0,own:=true} r.1)
theorem zhJ {c:Zab} (hc:c.Ok) (Zaa:Int):Ret (jg c Zaa) (zjs c Zaa):=by
  obtain ⟨r,hr,h⟩:=zeE hc Zaa
  refine ⟨r,hr,?_⟩
  rcases h with h | ⟨h,s0,h1,h2,h3,h4,h5,h6⟩
  · exact .inl ⟨h,zeJ hr h⟩
  · exact .inr ⟨h,s0,h1,h2,h3,h4,h5,h6⟩
section
section
variable {c:Zab} {Zaa:Int} {p:Zah} {a:ZaF}
theorem ArOk.lost (A:ArOk c Zaa p a) {i:Nat} (hi:i < a.Zau.length):(gm c a).lost i=jA c a.Zau[i].state Zaa:=by
  show (match a.Zau[i]? with | some q=>jA c q.state a.Zaa | none=>false)=_
  rw [List.getElem?_eq_getElem hi,A.pa]
theorem ArOk.own (A:ArOk c Zaa p a) {i:Nat} (hi:i < a.Zau.length):(gm c a).own i=a.Zau[i].own:=by
  show (match a.Zau[i]? with | some q=>q.own | none=>false)=_
  rw [List.getElem?_eq_getElem hi]
theorem ArOk.pos (A:ArOk c Zaa p a):0 < a.Zau.length:=(List.getElem?_eq_some_iff.1 A.F.first).1
theorem ArOk.tgt (A:ArOk c Zaa p a) {i:Nat} (hi:i < a.Zau.length) {T:List Zar} (hT:a.moves[i]?=some T) {m:Zar} (hm:m∈T) :
    m.step∈zE c Zaa a.Zau[i]∧0≤m.to∧∃ h:m.to.toNat < a.Zau.length,a.Zau[m.to.toNat]=target c a.Zau[i] m.step:=by
  obtain ⟨T',h1,h2,h3⟩:=A.mv hi
  rw [hT] at h1;cases h1
  obtain ⟨h4,h5⟩:=h3 m hm
  obtain ⟨h6,h7⟩:=List.getElem?_eq_some_iff.1 h5
  exact ⟨by rw [←h2];exact List.mem_map.2 ⟨m,hm,rfl⟩,h4,h6,h7⟩
theorem ArOk.ne (A:ArOk c Zaa p a) {i:Nat} (hi:i < a.Zau.length) {T:List Zar} (hT:a.moves[i]?=some T) (ho:a.Zau[i].own=true):T≠[]:=by
  obtain ⟨T',h1,h2,_⟩:=A.mv hi
  rw [hT] at h1;cases h1
  intro e
  subst e
  have:(-2:Int)∈zE c Zaa a.Zau[i]:=wG.2 (.inl ⟨ho,rfl⟩)
  rw [←h2] at this;cases this
theorem Jq {G:Gm} {r:Nat→Int} (h:yp G r) {i:Nat} (hi:i < G.n):r i=0↔G.lost i=true:=by
  have h0:=(h i hi).2 0
  have h1:=(h i hi).1
  constructor
  · intro e;exact h0.1 ⟨by omega,by omega⟩
  · intro e;have:=h0.2 e;omega
end
end
section
def AttrP (c:Zab) (Zaa:Int):Nat→Zah→Prop
  | 0,q=>jA c q.state Zaa=true
  | k+1,q=>jA c q.state Zaa=true∨(q.own=true∧∀ m∈zE c Zaa q,AttrP c Zaa k (target c q m))∨(q.own=false∧∃ m∈zE c Zaa q,AttrP c Zaa k (target c q m))
def zcW (c:Zab) (Zaa:Int) (q:Zah):Prop:=∀ k,¬ AttrP c Zaa k q
theorem AttrP.zero {c:Zab} {Zaa:Int} {q:Zah} (h:jA c q.state Zaa=true):∀ k,AttrP c Zaa k q
  | 0=>h
  | k+1=>.inl h
theorem AttrP.succ1 {c:Zab} {Zaa:Int}:∀ {k:Nat} {q:Zah},AttrP c Zaa k q→AttrP c Zaa (k+1) q
  | 0,q,h=>.inl h
  | k+1,q,h=>by
    rcases h with h | ⟨h1,h2⟩ | ⟨h1,t,h2,h3⟩
    · exact .inl h
    · exact .inr (.inl ⟨h1,fun t ht=>(h2 t ht).succ1⟩)
    · exact .inr (.inr ⟨h1,t,h2,h3.succ1⟩)
theorem AttrP.mono {c:Zab} {Zaa:Int} {k k':Nat} {q:Zah} (hk:k≤k') (h:AttrP c Zaa k q):AttrP c Zaa k' q:=by
  induction hk with
  | refl=>exact h
  | step _ ih=>exact ih.succ1
section
variable {c:Zab} {Zaa:Int} {p:Zah} {a:ZaF}
theorem zeK (A:ArOk c Zaa p a):∀ (k i:Nat) (hi:i < a.Zau.length),Attr (gm c a) k i↔AttrP c Zaa k a.Zau[i]
  | 0,i,hi=>by show (gm c a).lost i=true↔_;rw [A.lost hi];rfl
  | k+1,i,hi=>by
    obtain ⟨T,hT,hst,_⟩:=A.mv hi
    have hs:=A.succ hi hT
    have go:∀ m∈T,(Attr (gm c a) k m.to.toNat↔AttrP c Zaa k (target c a.Zau[i] m.step)):=fun m hm=>by
      obtain ⟨_,_,t3,t4⟩:=A.tgt hi hT hm
      rw [zeK A k _ t3,t4]
    have hall:(∀ t∈(gm c a).succ i,Attr (gm c a) k t)↔∀ m∈zE c Zaa a.Zau[i],AttrP c Zaa k (target c a.Zau[i] m):=by
      rw [hs,←hst]
      constructor
      · intro h x hx
        obtain ⟨m,hm,rfl⟩:=List.mem_map.1 hx
        exact (go m hm).1 (h _ (List.mem_map.2 ⟨m,hm,rfl⟩))
      · intro h x hx
        obtain ⟨m,hm,rfl⟩:=List.mem_map.1 hx
        exact (go m hm).2 (h _ (List.mem_map.2 ⟨m,hm,rfl⟩))
    have hex:(∃ t∈(gm c a).succ i,Attr (gm c a) k t)↔∃ m∈zE c Zaa a.Zau[i],AttrP c Zaa k (target c a.Zau[i] m):=by
      rw [hs,←hst]
      constructor
      · rintro ⟨x,hx,h⟩
        obtain ⟨m,hm,rfl⟩:=List.mem_map.1 hx
        exact ⟨_,List.mem_map.2 ⟨m,hm,rfl⟩,(go m hm).1 h⟩
      · rintro ⟨x,hx,h⟩
        obtain ⟨m,hm,rfl⟩:=List.mem_map.1 hx
        exact ⟨_,List.mem_map.2 ⟨m,hm,rfl⟩,(go m hm).2 h⟩
    show ((gm c a).lost i=true∨((gm c a).own i=true∧∀ t∈(gm c a).succ i,Attr (gm c a) k t)∨((gm c a).own i=false∧∃ t∈(gm c a).succ i,Attr (gm c a) k t))↔_
    rw [A.lost hi,A.own hi,hall,hex]
    rfl
def RankP (c:Zab) (Zaa:Int) (q:Zah) (x:Int):Prop := -1≤x∧∀ k:Nat,(x ≠ -1∧x≤k)↔AttrP c Zaa k q
theorem zeL (A:ArOk c Zaa p a) {r:Nat→Int} (hr:yp (gm c a) r) {i:Nat} (hi:i < a.Zau.length):RankP c Zaa a.Zau[i] (r i):=
  ⟨(hr i hi).1,fun k=>((hr i hi).2 k).trans (zeK A k i hi)⟩
theorem RankP.safe {q:Zah} {x:Int} (h:RankP c Zaa q x):x = -1↔zcW c Zaa q:=by
  constructor
  · intro e k hk
    exact ((h.2 k).2 hk).1 e
  · intro hs
    have:=h.1
    by_cases e:x = -1
    · exact e
    · exact absurd ((h.2 x.toNat).1 ⟨e,by omega⟩) (hs _)
end
end
section
open Classical in
noncomputable def qW (c:Zab) (Zaa:Int) (q:Zah):Bool:=decide (zcW c Zaa q)
theorem Za {c:Zab} {Zaa:Int} {q:Zah}:qW c Zaa q=true↔zcW c Zaa q:=by unfold qW;simp
section
variable {c:Zab} {Zaa:Int} {p:Zah} {a:ZaF}
theorem zgf (hc:c.Ok) (A:ArOk c Zaa p a):ZF c a=some (a.Zau.map (qW c Zaa)):=by
  refine Ret.eq ?_
  have hn:a.Zau.length≤1500:=A.F.inv.len
  unfold ZF
  refine Ret.bind (YD hc A) ?_
  rintro r ⟨hl,hr,_⟩
  have hmk:mkN 1 (r.length:Int)=some a.Zau.length:=by rw [hl];exact J0 hn (by omega)
  refine Ret.bindE hmk ?_
  refine Ret.bind (P:=fun o:List Bool ⊕ Unit=>o=.inl (a.Zau.map (qW c Zaa))) (Ret.forL (fun i s=>s.length=a.Zau.length∧∀ j,j < i→s[j]?=(a.Zau.map (qW c Zaa))[j]?) (by omega) ⟨by simp,fun j hj=>by omega⟩ (fun i s hi hs => ?_) (fun s hs => ?_)) ?_
  · have hi':i < a.Zau.length:=by omega
    refine Ret.bindE (zl (xB hi)) ?_
    refine Ret.bindE (zQ hi') ?_
    refine Ret.bindE (List.getElem?_eq_getElem (show i < s.length by omega)) ?_
    refine Ret.some ⟨by simp [hs.1],fun j hj => ?_⟩
    by_cases e:j=i
    · subst e
      rw [List.getElem?_set_self (by omega),List.getElem?_map,List.getElem?_eq_getElem hi']
      simp only [Option.map_some,Option.some.injEq]
      have h1:=(zeL A hr hi').safe
      cases h2:qW c Zaa a.Zau[j] with
      | true=>rw [h1.2 (Za.1 h2)];rfl
      | false=>
        refine beq_eq_false_iff_ne.2 fun e => ?_
        rw [Za.2 (h1.1 e)] at h2;cases h2
    · rw [List.getElem?_set_ne (Ne.symm e)];exact hs.2 j (by omega)
  · have e:s=a.Zau.map (qW c Zaa):=List.ext_getElem? fun j=>by
      by_cases h:j < r.length
      · exact hs.2 j h
      · rw [List.getElem?_eq_none (by omega),List.getElem?_eq_none (by simp;omega)]
    rw [e]
  · rintro _ rfl
    simp only [Sum.elim_inl]
    refine Ret.bindE (xP (by simp)) ?_
    exact Ret.some rfl
noncomputable def zgg (c:Zab) (Zaa:Int) (q:Zah):Int:=
  bif q.own&&qW c Zaa q then ((zE c Zaa q).find? fun m=>qW c Zaa (target c q m)).getD (-2) else -2
theorem zhK (A:ArOk c Zaa p a) {i:Nat} (hi:i < a.Zau.length):ze (a.Zau.map (qW c Zaa)) (i:Int)=some (qW c Zaa a.Zau[i]):=zl (by rw [List.getElem?_map,List.getElem?_eq_getElem hi];rfl)
end
end
section
def atO (s:Zac):Zah:={state:=s,own:=true}
section
variable {c:Zab} {Zaa:Int} {p:Zah} {a:ZaF}
end
end
section
noncomputable def stF (c:Zab) (s0:Zac) (l:List Int):Zac:=l.foldl (fun s x=>qj c s x) s0
theorem ky (c:Zab) (s0:Zac) (l:List Int) (x:Int):stF c s0 (l++[x])=qj c (stF c s0 l) x:=by unfold stF;rw [List.foldl_append];rfl
structure TrOk (c:Zab) (P:Zac→Prop) (s0:Zac) (l:List Int):Prop where
  first:P s0
  step:∀ (k:Nat) (hk:k < l.length),(stF c s0 (l.take k)).day < c.Zat ∧ -1≤l[k]∧l[k] < c.Zaj.length∧P (stF c s0 (l.take (k+1)))
section
variable {c:Zab} {P:Zac→Prop} {s0:Zac} {l:List Int}
theorem TrOk.nil (h:P s0):TrOk c P s0 []:=⟨h,fun k hk=>by simp at hk⟩
theorem TrOk.snoc (h:TrOk c P s0 l) {x:Int} (hd:(stF c s0 l).day < c.Zat) (h0 : -1≤x) (h1:x < c.Zaj.length) (hP:P (qj c (stF c s0 l) x)):TrOk c P s0 (l++[x]):=by
  refine ⟨h.first,fun k hk => ?_⟩
  rw [List.length_append] at hk
  simp only [List.length_cons,List.length_nil] at hk
  by_cases e:k=l.length
  · subst e
    have e1:(l++[x]).take l.length=l:=by simp
    have e2:(l++[x]).take (l.length+1)=l++[x]:=List.take_of_length_le (by simp)
    rw [e1,e2,ky]
    simp only [List.getElem_append_right (Nat.le_refl _),Nat.sub_self,List.getElem_cons_zero]
    exact ⟨hd,h0,h1,hP⟩
  · have hk2:k < l.length:=by omega
    rw [List.take_append_of_le_length (by omega),List.take_append_of_le_length (by omega),List.getElem_append_left hk2]
    exact h.step k hk2
theorem TrOk.take (h:TrOk c P s0 l) (n:Nat):TrOk c P s0 (l.take n):=by
  refine ⟨h.first,fun k hk => ?_⟩
  rw [List.length_take] at hk
  have h1:=h.step k (by omega)
  rw [List.take_take,List.take_take,show min k n=k by omega,show min (k+1) n=k+1 by omega,List.getElem_take]
  exact h1
theorem TrOk.all (h:TrOk c P s0 l):∀ k,k≤l.length→P (stF c s0 (l.take k))
  | 0,_=>by rw [List.take_zero];exact h.first
  | k+1,hk=>(h.step k (by omega)).2.2.2
theorem TrOk.vs (hc:c.Ok) (hv:VS c s0) (h:TrOk c P s0 l):∀ k,k≤l.length→VS c (stF c s0 (l.take k))
  | 0,_=>by rw [List.take_zero];exact hv
  | k+1,hk=>by
    obtain ⟨a1,a2,a3,_⟩:=h.step k (by omega)
    have h2:=TrOk.vs hc hv h k (by omega)
    rw [List.take_succ_eq_append_getElem (by omega),ky]
    exact (xW hc h2 a2 a3 a1).2.1
theorem TrOk.vsl (hc:c.Ok) (hv:VS c s0) (h:TrOk c P s0 l):VS c (stF c s0 l):=by
  have:=h.vs hc hv l.length (Nat.le_refl _)
  rwa [List.take_length] at this
end
def Qr (c:Zab) (s:Zac) (x:Int):Int:=if x = -1 then -1 else match c.Zaj[x.toNat]? with
  | some a=>xA s.Zag a
  | none => -1
section
variable {c:Zab} {Zaa:Int} {p:Zah} {a:ZaF}
end
end
section
inductive Adv (c:Zab) (Zaa:Int) (s0:Zac):List Int→List Int→Prop where
  | stop {l:List Int} (h:zgg c Zaa (atO (stF c s0 l)) = -2):Adv c Zaa s0 l l
  | go {l l2:List Int} (h:zgg c Zaa (atO (stF c s0 l)) ≠ -2) (t:Adv c Zaa s0 (l++[zgg c Zaa (atO (stF c s0 l))]) l2):Adv c Zaa s0 l l2
inductive Fw (c:Zab) (Zaa:Int) (s0:Zac):List Int→List Int→List Int→Prop where
  | done {l:List Int}:Fw c Zaa s0 [] l l
  | stop {o:Int} {os l:List Int} (h:(stF c s0 l).day=c.Zat):Fw c Zaa s0 (o::os) l l
  | own {o:Int} {os l l1 l2:List Int} (h:(stF c s0 l).day≠c.Zat) (ha:Adv c Zaa s0 l l1) (hd:Qr c (stF c s0 l1) o=Zaa) (t:Fw c Zaa s0 os l1 l2):Fw c Zaa s0 (o::os) l l2
  | oth {o:Int} {os l l1 l2:List Int} (h:(stF c s0 l).day≠c.Zat) (ha:Adv c Zaa s0 l l1) (hd:Qr c (stF c s0 l1) o≠Zaa) (t:Fw c Zaa s0 os (l1++[o]) l2):Fw c Zaa s0 (o::os) l l2
section
variable {c:Zab} {Zaa:Int} {s0:Zac} {a:ZaF}
abbrev Any (s:Zac):Prop:=True
end
end
section
def txs (s:Zac):ByteArray:=⟨(qh s).toArray⟩
theorem Zj (s:Zac):qp {state:=s,own:=false}=zV false++qh s:=by simp [qp,qh,List.append_assoc]
theorem zhL {c:Zab} {s t:Zac} (hs:VS c s) (ht:VS c t) (h:txs s=txs t):s=t:=by
  have h2:=congrArg (fun b:ByteArray=>b.data.toList) h
  have h3:qh s=qh t:=by simpa [txs] using h2
  have:=zaD (p:={state:=s,own:=false}) (q:={state:=t,own:=false}) hs ht (by rw [Zj,Zj,h3])
  exact congrArg Zah.state this
theorem zbS {c:Zab} (hc:c.Ok) {s:Zac} (hs:VS c s):wA s=some (txs s):=by
  have h:=Jo hc (p:={state:=s,own:=false}) hs
  unfold jI at h
  split at h
  · rename_i hok
    unfold wA
    rw [if_pos]
    · rfl
    · simp only [okP,Bool.and_eq_true,decide_eq_true_eq] at hok
      simp only [zak,Bool.and_eq_true,decide_eq_true_eq]
      refine ⟨hok.1,?_⟩
      have:=hok.2
      rw [Zj,List.length_append] at this
      omega
  · cases h
theorem zkS (l:List Int) (hl:l.length < 4611686018427387904):km l=some l.reverse:=by
  refine Ret.eq ?_
  unfold km
  refine Ret.bind (P:=fun r=>r=l.reverse) ?_ (fun v hv=>Ret.some hv)
  refine Ret.iter (fun s:Int×Int×List Int=>0≤s.1∧s.1+s.2.1=(l.length:Int) - 1 ∧ -1≤s.2.1∧s.1≤(l.length:Int)∧s.2.2.length=l.length∧∀ (t:Nat),(((t:Int) < s.1∨s.2.1 < t)→s.2.2[t]?=l.reverse[t]?)∧(s.1≤t∧(t:Int)≤s.2.1→s.2.2[t]?=l[t]?)) (fun s=>(s.2.1+1).toNat) ?_ ?_
  · rw [z7 (by omega) (by omega)]
    refine ⟨by simp,by simp only;omega,by simp only;omega,by simp only;omega,rfl,fun t=>⟨fun h => ?_,fun _=>rfl⟩⟩
    simp only at h
    show l[t]?=l.reverse[t]?
    rw [List.getElem?_eq_none (by omega),List.getElem?_eq_none (by rw [List.length_reverse];omega)]
  rintro ⟨i,j,cur⟩ ⟨h1,h2,h3,h4,h5,h6⟩
  simp only at h1 h2 h3 h4 h5 h6 ⊢
  refine Ret.ite (fun h => ?_) (fun h => ?_)
  · have hij:=of_decide_eq_true h
    obtain ⟨a,rfl⟩:∃ a:Nat,i=(a:Int):=⟨i.toNat,by omega⟩
    obtain ⟨b,rfl⟩:∃ b:Nat,j=(b:Int):=⟨j.toNat,by omega⟩
    have ha:a < l.length:=by omega
    have hb:b < l.length:=by omega
    refine Ret.bindE (zQ hb) ?_
    have eb:cur[b]?=some l[b]:=by rw [(h6 b).2 ⟨by omega,by omega⟩,List.getElem?_eq_getElem hb]
    have ea:cur[a]?=some l[a]:=by rw [(h6 a).2 ⟨by omega,by omega⟩,List.getElem?_eq_getElem ha]
    refine Ret.bindE eb ?_
    refine Ret.bindE (zQ ha) ?_
    refine Ret.bindE ea ?_
    refine Ret.bindE (v:=l[b]) (by rw [List.getElem?_set_ne (by omega)];exact eb) ?_
    rw [z7 (by omega) (by omega),z7 (by omega) (by omega)]
    refine Ret.some ⟨⟨by simp only;omega,by simp only;omega,by simp only;omega,by simp only;omega,by simp [h5],fun t => ?_⟩,by simp only;omega⟩
    simp only
    have hr:∀ x:Nat,x < l.length→l.reverse[x]?=l[l.length - 1 - x]?:=fun x hx=>by
      rw [List.getElem?_reverse hx]
    by_cases e1:t=b
    · subst e1
      refine ⟨fun _ => ?_,fun h=>by omega⟩
      rw [List.getElem?_set_self (by simp [h5];omega),hr _ hb,show l.length - 1 - t=a by omega,List.getElem?_eq_getElem ha]
    · by_cases e2:t=a
      · subst e2
        refine ⟨fun _ => ?_,fun h=>by omega⟩
        rw [List.getElem?_set_ne (by omega),List.getElem?_set_self (by omega),hr _ ha,show l.length - 1 - t=b by omega,List.getElem?_eq_getElem hb]
      · rw [List.getElem?_set_ne (by omega),List.getElem?_set_ne (by omega)]
        exact ⟨fun h=>(h6 t).1 (by omega),fun h=>(h6 t).2 (by omega)⟩
  · have hij:=of_decide_eq_false h
    refine Ret.some (List.ext_getElem? fun t => ?_)
    by_cases e:(t:Int) < i∨j < (t:Int)
    · exact (h6 t).1 e
    · rw [(h6 t).2 (by omega)]
      have ht:t < l.length:=by omega
      rw [List.getElem?_reverse ht,show l.length - 1 - t=t by omega]
def W5 (c:Zab) (L:List Zac) (n:Nat) (b:Int) (m:Nat):Prop:=∃ s,L[n]?=some s∧s.day < c.Zat ∧ -1≤b∧b < (c.Zaj.length:Int)∧L[m]?=some (qj c s b)
def zaJ (c:Zab) (L:List Zac) (n:Nat) (b:Int) (m:Nat):Prop:=W5 c L n b m∧∀ (n':Nat) (b':Int),n' < n→¬ W5 c L n' b' m
theorem J1 {L:List Zac} (h:L.Nodup) {i j:Nat} {q:Zac} (hi:L[i]?=some q) (hj:L[j]?=some q):i=j:=
  (List.getElem?_inj (List.getElem?_eq_some_iff.1 hi).1 h).1 (hi.trans hj.symm)
def zgP (c:Zab) (L:List Zac) (n:Nat) (P:List (ByteArray×Int)):Prop:=∀ q:Zac,VS c q→(∀ j:Nat,j < n→L[j]?=some q→zp (txs q) P=some (j:Int))∧((∀ j:Nat,j < n→L[j]?≠some q)→zp (txs q) P=none)
structure CInv (c:Zab) (L:List Zac) (i:Nat) (a:Int) (K:List (Int×Zax)):Prop where
  el:∀ (m:Nat) (e:Zax),zp (m:Int) K=some e→0 < m∧∃ n:Nat,e.from_=(n:Int)∧zaJ c L n e.step m
  has:∀ (n:Nat) (b:Int) (m:Nat),0 < m→W5 c L n b m→(n < i∨(n=i∧b < a))→∃ e,zp (m:Int) K=some e
def W6 (c:Zab) (L:List Zac) (K:List (Int×Zax)):Prop:=∀ m:Nat,0 < m→m < L.length→∃ (e:Zax) (n:Nat),zp (m:Int) K=some e∧e.from_=(n:Int)∧n < m∧zaJ c L n e.step m
section
variable {c:Zab} {s0:Zac} {L:List Zac}
theorem zgh (h:ReachOk c s0 L) {n:Nat} {s:Zac} (hn:L[n]?=some s) (hd:s.day < c.Zat) {b:Int} (h1 : -1≤b) (h2:b < (c.Zaj.length:Int)):∃ m,W5 c L n b m:=by
  have:=h.done s (List.mem_of_getElem? hn) hd b h1 h2
  obtain ⟨m,hm,e⟩:=List.getElem_of_mem this
  exact ⟨m,s,hn,hd,h1,h2,by rw [List.getElem?_eq_getElem hm,e]⟩
theorem zeM (hc:c.Ok) (h:ReachOk c s0 L):Ret (yP c L) (fun r=>∃ K,r=some K∧W6 c L K):=by
  have hlen:=h.inv.len
  have sa:=(qn (hc.off.lt (by omega:0 < 8)) (h.inv.vs _ h.first).cv).Zaj
  unfold yP
  refine Ret.bind (P:=fun o:(List (ByteArray×Int)) ⊕ Unit=>∃ P,o=.inl P∧zgP c L L.length P) (Ret.forL (fun i P=>zgP c L i P) (by omega) (fun q _=>⟨fun j hj=>by omega,fun _=>rfl⟩) (fun i P hi hP => ?_) (fun P hP=>⟨P,rfl,hP⟩)) ?_
  · refine Ret.bindE (zl (List.getElem?_eq_getElem hi)) ?_
    have hv:=h.inv.vs _ (List.getElem_mem hi)
    refine Ret.bindE (zbS hc hv) ?_
    refine Ret.some fun q hq => ?_
    by_cases e:q=L[i]
    · subst e
      rw [jw]
      refine ⟨fun j hj hjq => ?_,fun hn=>absurd (List.getElem?_eq_getElem hi) (hn i (by omega))⟩
      rw [J1 h.inv.nd hjq (List.getElem?_eq_getElem hi)]
    · rw [jW _ (fun e2=>e (zhL hq hv e2))]
      refine ⟨fun j hj hjq=>(hP q hq).1 j ?_ hjq,fun hn=>(hP q hq).2 fun j hj=>hn j (by omega)⟩
      by_cases e3:j=i
      · subst e3
        rw [List.getElem?_eq_getElem hi] at hjq
        exact absurd (Option.some.inj hjq).symm e
      · omega
  rintro o ⟨P,rfl,hP⟩
  simp only [Sum.elim_inl]
  refine Ret.bind (P:=fun o:(List (Int×Zax)) ⊕ Unit=>∃ K,o=.inl K∧CInv c L L.length (-1) K) (Ret.forL (fun i K=>CInv c L i (-1) K) (by omega) ⟨fun m e he=>by simp [zp] at he,fun n b m _ hE hp => ?_⟩ (fun i K hi hK => ?_) (fun K hK=>⟨K,rfl,hK⟩)) ?_
  · obtain ⟨_,_,_,h1,_⟩:=hE
    omega
  · have hie:=List.getElem?_eq_getElem hi
    have hv:=h.inv.vs _ (List.getElem_mem hi)
    refine Ret.bind (P:=fun K=>CInv c L (i+1) (-1) K) ?_ (fun K hK=>Ret.some hK)
    refine Ret.bindE (zl hie) ?_
    refine Ret.ite (fun hd => ?_) (fun hd => ?_)
    · have hd:=beq_iff_eq.1 hd
      refine Ret.some ⟨hK.el,fun n b m h0 hE hp=>hK.has n b m h0 hE ?_⟩
      obtain ⟨s,q1,q2,q3,q4,_⟩:=hE
      by_cases e:n=i
      · subst e
        rw [hie] at q1;cases q1;omega
      · omega
    · have hd:=beq_eq_false_iff_ne.1 hd
      have hday:=hv.day
      have hd2:L[i].day < c.Zat:=by omega
      refine Ret.bind (P:=fun K=>CInv c L (i+1) (-1) K) ?_ (fun K hK=>Ret.some hK)
      refine Ret.iter (fun s:Int×List (Int×Zax)=>(-1≤s.1∧s.1≤(c.Zaj.length:Int))∧CInv c L i s.1 s.2) (fun s=>((c.Zaj.length:Int)+1 - s.1).toNat) ⟨⟨by simp,by show (-1:Int)≤_;omega⟩,hK⟩ ?_
      rintro ⟨a,K2⟩ ⟨ha,hK2⟩
      simp only at ha hK2 ⊢
      refine Ret.ite (fun hlt => ?_) (fun hge => ?_)
      · have hlt:=of_decide_eq_true hlt
        obtain ⟨est,hvs,_⟩:=xW hc hv ha.1 hlt hd2
        obtain ⟨m,hE⟩:=zgh h hie hd2 ha.1 hlt
        have hE0:=hE
        obtain ⟨s,q1,_,_,_,q5⟩:=hE
        rw [hie] at q1;cases q1
        have hml:=(List.getElem?_eq_some_iff.1 q5).1
        have hto:=(hP _ hvs).1 m hml q5
        have hgo:CInv c L i a K2→(∃ e,zp (m:Int) K2=some e∨m=0)→CInv c L i (a+1) K2:=fun _ hx=>⟨hK2.el,fun n b m' h0 hE' hp=>by
          by_cases e:n=i∧b=a
          · obtain ⟨rfl,rfl⟩:=e
            obtain ⟨s',g1,_,_,_,g5⟩:=hE'
            rw [hie] at g1;cases g1
            have:=J1 h.inv.nd g5 q5
            subst this
            obtain ⟨e,hx | hx⟩:=hx
            · exact ⟨e,hx⟩
            · omega
          · exact hK2.has n b m' h0 hE' (by omega)⟩
        refine Ret.bind (P:=fun K=>CInv c L i (a+1) K) ?_ (fun K hK => ?_)
        · refine Ret.bindE est ?_
          refine Ret.bindE (zbS hc hvs) ?_
          rw [hto]
          simp only [Option.getD_some]
          refine Ret.bind (P:=fun b:Bool=>b=(!(zp (m:Int) K2).isSome && !decide (m=0))) ?_ ?_
          · refine Ret.ite (fun hk=>Ret.some (by rw [hk];rfl)) (fun hk=>Ret.some ?_)
            rw [hk]
            simp only [Bool.not_false,Bool.true_and]
            congr 1
            by_cases e:m=0
            · subst e;rfl
            · rw [decide_eq_false e];exact beq_eq_false_iff_ne.2 (by omega)
          · rintro b rfl
            refine Ret.ite (fun hb => ?_) (fun hb => ?_)
            · simp only [Bool.and_eq_true,Bool.not_eq_true',decide_eq_false_iff_not,Option.isSome_eq_false_iff,Option.isNone_iff_eq_none] at hb
              refine Ret.some ⟨fun m' e he => ?_,fun n b m' h0 hE' hp => ?_⟩
              · by_cases e2:m'=m
                · subst e2
                  rw [jw] at he
                  cases he
                  refine ⟨by omega,i,rfl,hE0,fun n' b' hn' hE' => ?_⟩
                  obtain ⟨e,he⟩:=hK2.has n' b' m' (by omega) hE' (.inl hn')
                  rw [hb.1] at he;cases he
                · rw [jW _ (by omega)] at he
                  exact hK2.el m' e he
              · by_cases e2:m'=m
                · subst e2;exact ⟨_,jw _ _ _⟩
                · rw [jW _ (by omega)]
                  by_cases e:n=i∧b=a
                  · obtain ⟨rfl,rfl⟩:=e
                    obtain ⟨s',g1,_,_,_,g5⟩:=hE'
                    rw [hie] at g1;cases g1
                    exact absurd (J1 h.inv.nd g5 q5) e2
                  · exact hK2.has n b m' h0 hE' (by omega)
            · refine Ret.some (hgo hK2 ?_)
              cases hg:zp (m:Int) K2 with
              | some e=>exact ⟨e,.inl rfl⟩
              | none=>
                rw [hg] at hb
                simp only [Option.isSome_none,Bool.not_false,Bool.true_and,Bool.not_eq_false',decide_eq_true_eq] at hb
                exact ⟨{from_:=0,step:=0},.inr hb⟩
        · rw [z7 (by omega) (by omega)]
          refine Ret.some ⟨⟨⟨by show -1≤a+1;omega,by show a+1≤(c.Zaj.length:Int);omega⟩,hK⟩,?_⟩
          show ((c.Zaj.length:Int)+1 - (a+1)).toNat < ((c.Zaj.length:Int)+1 - a).toNat
          omega
      · have hge:=of_decide_eq_false hge
        refine Ret.some ⟨hK2.el,fun n b m h0 hE hp=>hK2.has n b m h0 hE ?_⟩
        obtain ⟨s,_,_,q3,q4,_⟩:=hE
        by_cases e:n=i
        · exact .inr ⟨e,by omega⟩
        · exact .inl (by omega)
  rintro o ⟨K,rfl,hK⟩
  simp only [Sum.elim_inl]
  refine Ret.some ⟨K,rfl,fun m h0 hm => ?_⟩
  obtain ⟨n0,s,b,g1,g2,g3,g4,g5,g6,_⟩:=h.bfs m _ h0 (List.getElem?_eq_getElem hm)
  have hE:W5 c L n0 b m:=⟨s,g2,g3,g4,g5,by rw [g6];exact List.getElem?_eq_getElem hm⟩
  obtain ⟨e,he⟩:=hK.has n0 b m h0 hE (.inl (by omega))
  obtain ⟨_,n,q1,q2⟩:=hK.el m e he
  refine ⟨e,n,he,q1,?_,q2⟩
  rcases Nat.lt_or_ge n0 n with hlt | hge
  · exact absurd hE (q2.2 n0 b hlt)
  · omega
inductive Dp (c:Zab) (L:List Zac):Nat→Nat→Prop where
  | zero:Dp c L 0 0
  | next {m n d:Nat} {b:Int} (h0:0 < m) (h:zaJ c L n b m) (hn:n < m) (t:Dp c L n d):Dp c L m (d+1)
theorem zaK (c:Zab) (s:Zac) (x:Int) (l:List Int):stF c s (x::l)=stF c (qj c s x) l:=rfl
theorem TrOk.cons {s:Zac} {x:Int} {l:List Int} (hd:s.day < c.Zat) (h1 : -1≤x) (h2:x < c.Zaj.length) (h:TrOk c Any (qj c s x) l):TrOk c Any s (x::l):=by
  refine ⟨trivial,fun k hk => ?_⟩
  cases k with
  | zero=>exact ⟨hd,h1,h2,trivial⟩
  | succ k=>
    have:=h.step k (by simpa using hk)
    simp only [List.take_succ_cons,zaK,List.getElem_cons_succ]
    exact ⟨this.1,this.2.1,this.2.2.1,trivial⟩
theorem zhM (hc:c.Ok) (h:ReachOk c s0 L) {K:List (Int×Zax)} (hK:W6 c L K) {k:Nat} {q:Zac} (hk:L[k]?=some q) :
    Ret (Qk (some K) (k:Int)) (fun tr=>TrOk c Any s0 tr∧stF c s0 tr=q∧Dp c L k tr.length):=by
  have hlen:=h.inv.len
  have hkl:=(List.getElem?_eq_some_iff.1 hk).1
  unfold Qk
  refine Ret.bind (P:=fun l=>l.length≤1500∧TrOk c Any s0 l.reverse∧stF c s0 l.reverse=q∧Dp c L k l.length) (Ret.iter (fun s:List Int×Int=>∃ (m:Nat) (t:Zac),s.2=(m:Int)∧L[m]?=some t∧TrOk c Any t s.1.reverse∧stF c t s.1.reverse=q∧s.1.length+m≤k∧∀ d,Dp c L m d→Dp c L k (d+s.1.length)) (fun s=>s.2.toNat) ⟨k,q,rfl,hk,.nil trivial,rfl,by simp,fun d hd=>by simpa using hd⟩ ?_) ?_
  · rintro ⟨l,x⟩ ⟨m,t,hx,hm,htr,hst,hle,hdp⟩
    simp only at hx htr hst hle hdp ⊢
    subst hx
    have hml:=(List.getElem?_eq_some_iff.1 hm).1
    unfold Qj
    simp only
    refine Ret.ite (fun h0 => ?_) (fun h0 => ?_)
    · have hm0:0 < m:=by
        rcases Nat.eq_zero_or_pos m with e | e
        · subst e;simp at h0
        · exact e
      obtain ⟨e,n,e1,e2,e3,e4⟩:=hK m hm0 hml
      have hw:jM (some K) (m:Int)=e:=by unfold jM;rw [Option.getD_some,e1];rfl
      rw [hw]
      refine Ret.bindE (v:=l++[e.step]) (by unfold zfm;rw [if_pos];simp;omega) ?_
      have e40:=e4
      obtain ⟨⟨s',g1,g2,g3,g4,g5⟩,_⟩:=e4
      rw [hm] at g5;cases g5
      refine Ret.some ⟨⟨n,s',e2,g1,?_,?_,by simp only [List.length_append,List.length_cons,List.length_nil];omega,fun d hd => ?_⟩,?_⟩
      · simp only [List.reverse_append,List.reverse_cons,List.reverse_nil,List.nil_append,List.singleton_append]
        exact htr.cons g2 g3 g4
      · simp only [List.reverse_append,List.reverse_cons,List.reverse_nil,List.nil_append,List.singleton_append,zaK]
        exact hst
      · have:=hdp (d+1) (.next hm0 e40 e3 hd)
        simpa [Nat.add_assoc,Nat.add_comm 1] using this
      · simp only [e2,Int.toNat_natCast];omega
    · have hm0:m=0:=by
        rcases Nat.eq_zero_or_pos m with e | e
        · exact e
        · have:((m:Int) == 0)=false:=beq_eq_false_iff_ne.2 (by omega)
          rw [this] at h0;cases h0
      subst hm0
      have:=h.at0
      rw [hm] at this;cases this
      exact Ret.some ⟨by omega,htr,hst,by simpa using hdp 0 .zero⟩
  · rintro l ⟨h1,h2,h3,h4⟩
    refine Ret.bindE (zkS l (by omega)) ?_
    refine Ret.bindE (xP (by simp)) ?_
    exact Ret.some ⟨h2,h3,by simpa using h4⟩
theorem zeN (h:ReachOk c s0 L) {m m' n n':Nat} {b b':Int} (h0:0 < m) (hm:m≤m') (h1:zaJ c L n b m) (h2:zaJ c L n' b' m'):n≤n':=by
  obtain ⟨q,hq⟩:∃ q,L[m]?=some q:=by obtain ⟨s,_,_,_,_,g⟩:=h1.1;exact ⟨_,g⟩
  obtain ⟨n0,s,a,g1,g2,g3,g4,g5,g6,g7⟩:=h.bfs m q h0 hq
  have hn:n≤n0:=by
    rcases Nat.lt_or_ge n0 n with hlt | hge
    · exact absurd ⟨s,g2,g3,g4,g5,by rw [g6];exact hq⟩ (h1.2 n0 a hlt)
    · exact hge
  rcases Nat.lt_or_ge n' n with hlt | hge
  · obtain ⟨s',k1,k2,k3,k4,k5⟩:=h2.1
    obtain ⟨m'',q1,q2⟩:=g7 n' s' b' (by omega) k1 k2 k3 k4
    have:=J1 h.inv.nd q2 k5
    omega
  · exact hge
theorem Dp.mono (h:ReachOk c s0 L):∀ {m d:Nat},Dp c L m d→∀ {m' d':Nat},m≤m'→Dp c L m' d'→d≤d':=by
  intro m d h1
  induction h1 with
  | zero=>intros;omega
  | @next m n d b h0 hcm hn t ih=>
    intro m' d' hm h2
    cases h2 with
    | zero=>omega
    | @next _ n' d2 b' h0' hcm' hn' t'=>
      have:=ih (zeN h h0 hm hcm hcm') t'
      omega
end
end
section
def npA {α:Type} (l:List α) (p:α→Bool) (j:Nat):Bool:=match l[j]? with | some x=>!p x | none=>true
theorem Jr {α:Type} {l:List α} {p:α→Bool} {j:Nat} (hj:j < l.length):npA l p j=!p l[j]:=by unfold npA;rw [List.getElem?_eq_getElem hj]
theorem Js {α:Type} (l:List α) (p:α→Bool):decide ((0:Int)≤(match (List.range l.length).find? (fun j=>!(npA l p j)) with | none=>(-1:Int) | some j=>(j:Int)))=l.any p:=by
  cases hf:(List.range l.length).find? (fun j=>!(npA l p j)) with
  | none=>
    have h:=wy hf
    rw [decide_eq_false (by simp)]
    symm
    rw [Bool.eq_false_iff]
    intro ha
    obtain ⟨x,hx,hp⟩:=List.any_eq_true.1 ha
    obtain ⟨j,hj,rfl⟩:=List.getElem_of_mem hx
    have:=h j hj
    rw [Jr hj] at this
    simp [hp] at this
  | some i=>
    obtain ⟨hi,g1,_⟩:=wz hf
    rw [Jr hi] at g1
    simp only [Bool.not_eq_false'] at g1
    rw [decide_eq_true (by simp)]
    symm
    exact List.any_eq_true.2 ⟨_,List.getElem_mem hi,g1⟩
def Zk (i:Nat) (s:Zac):Int:=match s.Zal[i]? with | some m=>m.Zan | none=>0
def wh (L:List Zac) (i:Nat):Bool := !L.any fun s=>!(Zk i s == 0)
def zgQ (L:List Zac) (i:Nat):Bool:=L.any fun s=>Zk i s == 3
def unB (c:Zab) (L:List Zac) (i:Nat):Bool:=match c.Zaf[i]? with
  | some k=>k.kind == 3&&(!k.Zaz && !zgQ L i)
  | none=>false
section
variable {c:Zab} {s0:Zac} {L:List Zac}
theorem J2 {s:Zac} (hv:VS c s) {i:Nat} (hi:i < c.Zaf.length):∃ m,s.Zal[i]?=some m∧ze s.Zal (i:Int)=some m∧Zk i s=m.Zan:=by
  have:i < s.Zal.length:=by rw [hv.lm];exact hi
  refine ⟨_,List.getElem?_eq_getElem this,zl (List.getElem?_eq_getElem this),?_⟩
  unfold Zk;rw [List.getElem?_eq_getElem this]
theorem XI (h:ReachOk c s0 L) {i:Nat} (hi:i < c.Zaf.length):yv L (i:Int)=some (wh L i):=by
  have hlen:=h.inv.len
  unfold yv WM WL
  rw [jo (npA L (fun s=>!(Zk i s == 0))) (fun j=>(j:Int)) (by omega) (fun j hj=>by
    obtain ⟨m,_,h2,h3⟩:=J2 (h.inv.vs _ (List.getElem_mem hj)) hi
    rw [zl (List.getElem?_eq_getElem hj)]
    simp only [ZaI,WK,h2,Jr hj,h3]
    cases (m.Zan == 0)<;>rfl)]
  have hf:=Js L (fun s=>!(Zk i s == 0))
  simp only [ZaI]
  cases hq:(List.range L.length).find? (fun j=>!(npA L (fun s=>!(Zk i s == 0)) j)) with
  | none=>rw [hq] at hf;simp only [Sum.elim_inl,ZaI,hf];rfl
  | some j=>rw [hq] at hf;simp only [Sum.elim_inr,ZaI,hf];rfl
theorem zgi (h:ReachOk c s0 L) {i:Nat} (hi:i < c.Zaf.length):Jc L (i:Int)=some (zgQ L i):=by
  have hlen:=h.inv.len
  unfold Jc WO
  rw [jo (npA L (fun s=>Zk i s == 3)) (fun j=>(j:Int)) (by omega) (fun j hj=>by
    obtain ⟨m,_,h2,h3⟩:=J2 (h.inv.vs _ (List.getElem_mem hj)) hi
    rw [zl (List.getElem?_eq_getElem hj)]
    simp only [ZaI,WN,h2,Jr hj,h3]
    cases (m.Zan == 3)<;>rfl)]
  have hf:=Js L (fun s=>Zk i s == 3)
  simp only [ZaI]
  cases hq:(List.range L.length).find? (fun j=>!(npA L (fun s=>Zk i s == 3) j)) with
  | none=>rw [hq] at hf;simp only [Sum.elim_inl,ZaI,hf];rfl
  | some j=>rw [hq] at hf;simp only [Sum.elim_inr,ZaI,hf];rfl
theorem zeO (h:ReachOk c s0 L) {i:Nat} (hi:i < c.Zaf.length):vw c L (i:Int)=some (unB c L i):=by
  unfold vw
  rw [zl (List.getElem?_eq_getElem hi)]
  simp only [ZaI,zgi h hi,unB,List.getElem?_eq_getElem hi]
  cases (c.Zaf[i].kind == 3)<;>cases c.Zaf[i].Zaz<;>rfl
end
def zjt (c:Zab):Bool:=c.Zaj.any fun a=>a.kind == 3
def zju (d b:Zam):Bool:=d.kind == 1&&(b.kind == 2&&(d.final&&(b.final&&(!d.Zaz&&(!b.Zaz&&(d.act == b.act&&(d.pause == -1&&(b.pause == -1&&d.ZaE == b.ZaE))))))))
def zaL (c:Zab) (i j:Nat):Bool:=match c.Zaf[i]?,c.Zaf[j]? with
  | some d,some b=>zju d b && !zjt c
  | _,_=>false
def clK (k:Zam) (d b:zw):Bool:=(d.Zan == 1||d.Zan == 2)&&(b.Zan == 1&&(b.Zav == d.Zav&&decide ((bif d.Zan == 1 then d.left+k.Zay else d.left)≤b.left)))
def XJ (c:Zab) (s:Zac) (i j:Nat):Bool:=match c.Zaf[i]?,s.Zal[i]?,s.Zal[j]? with
  | some k,some d,some b=>clK k d b
  | _,_,_=>false
section
variable {c:Zab} {s0:Zac} {L:List Zac}
theorem zhN (ha:c.Zaj.length < 4611686018427387904):WQ c.Zaj=some (zjt c):=by
  unfold WQ Kc
  rw [jo (npA c.Zaj (fun a=>a.kind == 3)) (fun j=>(j:Int)) (by omega) (fun j hj=>by
    rw [zl (List.getElem?_eq_getElem hj)]
    simp only [ZaI,WP,Jr hj]
    cases (c.Zaj[j].kind == 3)<;>rfl)]
  have hf:=Js c.Zaj (fun a=>a.kind == 3)
  simp only [ZaI]
  cases hq:(List.range c.Zaj.length).find? (fun j=>!(npA c.Zaj (fun a=>a.kind == 3) j)) with
  | none=>rw [hq] at hf;simp only [Sum.elim_inl,ZaI,hf];rfl
  | some j=>rw [hq] at hf;simp only [Sum.elim_inr,ZaI,hf];rfl
theorem zbT (ha:c.Zaj.length < 4611686018427387904) {i j:Nat} (hi:i < c.Zaf.length) (hj:j < c.Zaf.length):xN c (i:Int) (j:Int)=some (zaL c i j):=by
  unfold xN
  rw [zl (List.getElem?_eq_getElem hi),zl (List.getElem?_eq_getElem hj)]
  simp only [ZaI,zhN ha,zaL,zju,List.getElem?_eq_getElem hi,List.getElem?_eq_getElem hj]
  cases (c.Zaf[i].kind == 1)
  · rfl
  cases (c.Zaf[j].kind == 2)
  · rfl
  cases c.Zaf[i].final
  · rfl
  cases c.Zaf[j].final
  · rfl
  cases c.Zaf[i].Zaz
  rotate_left
  · rfl
  cases c.Zaf[j].Zaz
  rotate_left
  · rfl
  cases (c.Zaf[i].act == c.Zaf[j].act)
  · rfl
  cases (c.Zaf[i].pause == -1)
  · rfl
  cases (c.Zaf[j].pause == -1)
  · rfl
  cases (c.Zaf[i].ZaE == c.Zaf[j].ZaE)<;>rfl
theorem zhO (hc:c.Ok) {s:Zac} (hv:VS c s) {i:Nat} {k:Zam} {m:zw} (hk:c.Zaf[i]?=some k) (hm:s.Zal[i]?=some m):IntKind.i64.wrap (m.left+k.Zay)=m.left+k.Zay:=by
  have ho:=hc.off.lt (by omega:0 < 8)
  have kv:=ya ho hv.cv hk
  have sm:=qn ho hv.cv
  have:=zeC kv (by have:=sm.Zao;omega) (hv.mrk i k m hk hm)
  have h2:=kv.Zay
  exact z7 (by omega) (by omega)
theorem zeP (hc:c.Ok) {s:Zac} (hv:VS c s) {i j:Nat} (hi:i < c.Zaf.length) (hj:j < c.Zaf.length):wC c s (i:Int) (j:Int)=some (XJ c s i j):=by
  obtain ⟨d,d1,d2,_⟩:=J2 hv hi
  obtain ⟨b,b1,b2,_⟩:=J2 hv hj
  have hk:=List.getElem?_eq_getElem hi
  have hw:=zhO hc hv hk d1
  unfold wC
  simp only [d2,b2,zl hk,ZaI,hw,XJ,hk,d1,b1,clK]
  by_cases e1:d.Zan=1
  · simp only [e1,beq_self_eq_true,Bool.true_or,Bool.true_and,cond_true,ZaI,Sum.elim_inl]
    cases (b.Zan == 1)
    · rfl
    cases (b.Zav == d.Zav)<;>rfl
  · by_cases e2:d.Zan=2
    · simp only [e2]
      show _=some (true&&_)
      simp only [Bool.true_and]
      cases (b.Zan == 1)
      · rfl
      cases (b.Zav == d.Zav)<;>rfl
    · rw [beq_eq_false_iff_ne.2 e1,beq_eq_false_iff_ne.2 e2]
      rfl
end
end
section
structure ClF (c:Zab) (s0:Zac) (L:List Zac) (a b:Nat) (f:Zai):Prop where
  kind:f.kind=4
  Zaa:f.Zaa = -1
  clause:f.clause=(a:Int)
  other:f.other=(b:Int)
  ha:a < c.Zaf.length
  hb:b < c.Zaf.length
  opp:zaL c a b=true
  at_:∃ (k:Nat) (q:Zac),L[k]?=some q∧XJ c q a b=true∧(∀ (k':Nat) (q':Zac),k' < k→L[k']?=some q'→XJ c q' a b=false)∧TrOk c Any s0 f.ZaA∧stF c s0 f.ZaA=q∧Dp c L k f.ZaA.length
def Bef (a b i j:Nat):Prop:=a < i∨(a=i∧b < j)
structure ClashL (c:Zab) (s0:Zac) (L:List Zac) (i j:Nat) (C:List Zai):Prop where
  el:∀ f∈C,∃ a b,Bef a b i j∧ClF c s0 L a b f
  has:∀ a b,Bef a b i j→a < c.Zaf.length→b < c.Zaf.length→zaL c a b=true→(∃ q∈L,XJ c q a b=true)→∃ f∈C,f.clause=(a:Int)∧f.other=(b:Int)
  ord:C.Pairwise fun f g=>f.clause < g.clause∨(f.clause=g.clause∧f.other < g.other)
  len:C.length≤i*c.Zaf.length+j
def CmO (c:Zab) (L:List Zac) (o:Option (List (Int×Zax))):Prop:=o=none∨∃ K,o=some K∧W6 c L K
section
variable {c:Zab} {s0:Zac} {L:List Zac}
theorem ClashL.skip {i j:Nat} {C:List Zai} (h:ClashL c s0 L i j C) (hn:¬ (zaL c i j=true∧∃ q∈L,XJ c q i j=true)):ClashL c s0 L i (j+1) C where
  el:=fun f hf=>by
    obtain ⟨a,b,h1,h2⟩:=h.el f hf
    exact ⟨a,b,by unfold Bef at *; omega,h2⟩
  has:=fun a b h1 h2 h3 h4 h5=>by
    by_cases e:a=i∧b=j
    · obtain ⟨rfl,rfl⟩:=e
      exact absurd ⟨h4,h5⟩ hn
    · exact h.has a b (by unfold Bef at *; omega) h2 h3 h4 h5
  ord:=h.ord
  len:=by have:=h.len;omega
theorem ClashL.push {i j:Nat} {C:List Zai} {f:Zai} (h:ClashL c s0 L i j C) (hf:ClF c s0 L i j f):ClashL c s0 L i (j+1) (C++[f]) where
  el:=fun g hg=>by
    rcases List.mem_append.1 hg with hg | hg
    · obtain ⟨a,b,h1,h2⟩:=h.el g hg
      exact ⟨a,b,by unfold Bef at *; omega,h2⟩
    · rw [List.mem_singleton.1 hg]
      exact ⟨i,j,.inr ⟨rfl,by omega⟩,hf⟩
  has:=fun a b h1 h2 h3 h4 h5=>by
    by_cases e:a=i∧b=j
    · obtain ⟨rfl,rfl⟩:=e
      exact ⟨f,by simp,hf.clause,hf.other⟩
    · obtain ⟨g,h6,h7⟩:=h.has a b (by unfold Bef at *; omega) h2 h3 h4 h5
      exact ⟨g,by simp [h6],h7⟩
  ord:=List.pairwise_append.2 ⟨h.ord,by simp,fun g hg x hx=>by
    rw [List.mem_singleton.1 hx]
    obtain ⟨a,b,h1,h2⟩:=h.el g hg
    rw [h2.clause,h2.other,hf.clause,hf.other]
    unfold Bef at h1
    omega⟩
  len:=by have:=h.len;simp;omega
theorem ClashL.row {i:Nat} {C:List Zai} (h:ClashL c s0 L i c.Zaf.length C):ClashL c s0 L (i+1) 0 C where
  el:=fun f hf=>by
    obtain ⟨a,b,h1,h2⟩:=h.el f hf
    exact ⟨a,b,by unfold Bef at *; omega,h2⟩
  has:=fun a b h1 h2 h3 h4 h5=>h.has a b (by unfold Bef at *; omega) h2 h3 h4 h5
  ord:=h.ord
  len:=by have:=h.len;rw [Nat.succ_mul];omega
theorem zbn (hc:c.Ok) (h:ReachOk c s0 L) (hv0:VS c s0):Ret (wD c L) (ClashL c s0 L c.Zaf.length 0):=by
  have ho:=hc.off.lt (by omega:0 < 8)
  have sm:=qn ho hv0.cv
  have s2:=sm.Zaj
  have s3:=sm.Zaf
  have hlen:=h.inv.len
  have hn:c.Zaf.length≤400:=by omega
  unfold wD
  refine Ret.bind (P:=fun o:(List Zai×Option (List (Int×Zax))) ⊕ Unit=>∃ C o',o=.inl (C,o')∧ClashL c s0 L c.Zaf.length 0 C) (Ret.forL (fun i s=>ClashL c s0 L i 0 s.1∧CmO c L s.2) (by omega) ⟨⟨fun f hf=>by simp at hf,fun a b hb=>by unfold Bef at hb;omega,by simp,by simp⟩,.inl rfl⟩ (fun i s hi hs => ?_) (fun s hs=>⟨s.1,s.2,rfl,hs.1⟩)) ?_
  · obtain ⟨C,o⟩:=s
    obtain ⟨hC,hO⟩:=hs
    simp only at hC hO ⊢
    refine Ret.bind (P:=fun o:(List Zai×Option (List (Int×Zax))) ⊕ Unit=>∃ C o',o=.inl (C,o')∧ClashL c s0 L i c.Zaf.length C∧CmO c L o') (Ret.forL (fun j s=>ClashL c s0 L i j s.1∧CmO c L s.2) (by omega) ⟨hC,hO⟩ (fun j s hj hs => ?_) (fun s hs=>⟨s.1,s.2,rfl,hs⟩)) ?_
    · obtain ⟨C,o⟩:=s
      obtain ⟨hC,hO⟩:=hs
      simp only at hC hO ⊢
      have hCl:=hC.len
      have hbig:i*c.Zaf.length≤400*400:=Nat.mul_le_mul (by omega) hn
      refine Ret.bind (P:=fun v:List Zai×Option (List (Int×Zax))=>ClashL c s0 L i (j+1) v.1∧CmO c L v.2) ?_ (fun v hv=>Ret.some (show ClashL c s0 L i (j+1) v.1∧CmO c L v.2 from hv))
      refine Ret.bindE (zbT (by omega) hi hj) ?_
      refine Ret.ite (fun hopp => ?_) (fun hopp=>Ret.some ⟨hC.skip (by rw [hopp];simp),hO⟩)
      refine Ret.bind (P:=fun v:(List Zai×Option (List (Int×Zax))) ⊕ (List Zai×Option (List (Int×Zax)))=>(∃ C o,v=.inl (C,o)∧ClashL c s0 L i (j+1) C∧CmO c L o)∨(∃ C o,v=.inr (C,o)∧ClashL c s0 L i (j+1) C∧CmO c L o)) (Ret.forL (fun k s=>s=(C,o)∧∀ (k':Nat) (q:Zac),k' < k→L[k']?=some q→XJ c q i j=false) (by omega) ⟨rfl,fun k' q hk'=>by omega⟩ (fun k s hk hs => ?_) (fun s hs => ?_)) ?_
      · obtain ⟨rfl,hno⟩:=hs
        have hkk:=List.getElem?_eq_getElem hk
        have hvk:=h.inv.vs _ (List.getElem_mem hk)
        refine Ret.bindE (zl hkk) ?_
        refine Ret.bindE (zeP hc hvk hi hj) ?_
        refine Ret.ite (fun hcl => ?_) (fun hcl=>Ret.some ⟨rfl,fun k' q hk' hq => ?_⟩)
        · refine Ret.bind (P:=fun v=>∃ K,v=some K∧W6 c L K) ?_ ?_
          · refine Ret.ite (fun hs => ?_) (fun hs => ?_)
            · rcases hO with e | ⟨K,e,hK⟩
              · rw [e] at hs;cases hs
              · exact Ret.some ⟨K,e,hK⟩
            · exact Ret.bind (zeM hc h) fun r hr=>Ret.some hr
          · rintro v ⟨K,rfl,hK⟩
            refine Ret.bind (zhM hc h hK hkk) ?_
            rintro tr ⟨t1,t2,t3⟩
            refine Ret.bindE (x:=jb 4 (-1) (i:Int) (j:Int) tr) rfl ?_
            refine Ret.bindE (jC (by simp;omega)) ?_
            refine Ret.some (.inr ⟨_,_,rfl,hC.push ⟨rfl,rfl,rfl,rfl,hi,hj,hopp,k,_,hkk,hcl,fun k' q' h1 h2=>hno k' q' h1 h2,t1,t2,t3⟩,.inr ⟨K,rfl,hK⟩⟩)
        · by_cases e:k'=k
          · subst e
            rw [hkk] at hq;cases hq
            exact hcl
          · exact hno k' q (by omega) hq
      · obtain ⟨rfl,hno⟩:=hs
        refine .inl ⟨C,o,rfl,hC.skip ?_,hO⟩
        rintro ⟨_,q,hq,hcl⟩
        obtain ⟨k,hk,e⟩:=List.getElem_of_mem hq
        rw [hno k q hk (by rw [List.getElem?_eq_getElem hk,e])] at hcl
        cases hcl
      · rintro v (⟨C',o',rfl,h1,h2⟩ | ⟨C',o',rfl,h1,h2⟩)
        · exact Ret.some ⟨h1,h2⟩
        · exact Ret.some ⟨h1,h2⟩
    · rintro v ⟨C',o',rfl,h1,h2⟩
      exact Ret.some ⟨h1.row,h2⟩
  · rintro v ⟨C',o',rfl,h1⟩
    exact Ret.some h1
end
end
section
section
variable {c:Zab} {Zaa:Int} {p:Zah} {a:ZaF}
theorem zgj (A:ArOk c Zaa p a) {r:Nat→Int} (hr:yp (gm c a) r) {i:Nat} (hi:i < a.Zau.length) {T:List Zar} (hT:a.moves[i]?=some T) (h0:0 < r i) :
    T≠[]∧(a.Zau[i].own=true→∀ m∈T,0≤r m.to.toNat∧r m.to.toNat≤r i - 1)∧(a.Zau[i].own=false→∃ m∈T,0≤r m.to.toNat∧r m.to.toNat≤r i - 1):=by
  obtain ⟨k,hk⟩:∃ k:Nat,r i=((k+1:Nat):Int):=⟨(r i).toNat - 1,by omega⟩
  have hA:=((hr i hi).2 (k+1)).1 ⟨by omega,by omega⟩
  have hlo:(gm c a).lost i≠true:=fun e=>by have:=(Jq hr (i:=i) hi).2 e;omega
  have hs:=A.succ hi hT
  have hle:∀ m∈T,Attr (gm c a) k m.to.toNat→0≤r m.to.toNat∧r m.to.toNat≤r i - 1:=fun m hm ha=>by
    have ht:=A.to hi hT hm
    have hti:m.to.toNat < (gm c a).n:=by show m.to.toNat < a.Zau.length;omega
    have h1:=((hr _ hti).2 k).2 ha
    have h2:=(hr _ hti).1
    omega
  rcases hA with h | ⟨h1,h2⟩ | ⟨h1,t,h2,h3⟩
  · exact absurd h hlo
  · rw [A.own hi] at h1
    refine ⟨A.ne hi hT h1,fun _ m hm=>hle m hm (h2 _ (by rw [hs];exact List.mem_map.2 ⟨m,hm,rfl⟩)),fun e=>by rw [h1] at e;cases e⟩
  · rw [A.own hi] at h1
    rw [hs] at h2
    obtain ⟨m,hm,rfl⟩:=List.mem_map.1 h2
    exact ⟨fun e=>(by rw [e] at hm;cases hm),fun e=>(by rw [h1] at e;cases e),fun _=>⟨m,hm,hle m hm h3⟩⟩
end
end
section
structure PlayT (c:Zab) (Zaa:Int) (s0:Zac) (l:List Int):Prop where
  tr:TrOk c Any s0 l
  oth:∀ (k:Nat) (hk:k < l.length),(l[k] = -1∨Qr c (stF c s0 (l.take k)) l[k]≠Zaa)∧jA c (stF c s0 (l.take k)) Zaa=false
  lost:jA c (stF c s0 l) Zaa=true
  len:l.length≤1500
section
variable {c:Zab} {Zaa:Int} {s0:Zac} {a:ZaF}
theorem zeQ (A:ArOk c Zaa (atO s0) a) {r:List Int} (hl:r.length=a.Zau.length) {k:Nat} (hk:k < a.Zau.length) {T:List Zar} (hT:a.moves[k]?=some T) (hTl:T.length≤62)
    (hE:∃ m∈T,0≤at_ r m.to.toNat∧at_ r m.to.toNat≤at_ r k - 1):Ret (ZC T r (k:Int)) (fun n=>∃ j:Nat,n=(j:Int)∧∃ hj:j < T.length,0≤at_ r T[j].to.toNat∧at_ r T[j].to.toNat≤at_ r k - 1):=by
  unfold ZC
  have idxr:∀ k:Nat,k < a.Zau.length→ze r (k:Int)=some (at_ r k):=fun k hk=>zl (xB (by omega))
  have hrT:∀ (j:Nat) (hj:j < T.length),ze r T[j].to=some (at_ r T[j].to.toNat):=fun j hj=>by
    have ht:=A.to hk hT (List.getElem_mem hj)
    have:=idxr T[j].to.toNat (by omega)
    rw [Int.toNat_of_nonneg ht.1] at this
    exact this
  rw [jo (fun j=>!(match T[j]? with | some m=>decide (0≤at_ r m.to.toNat)&&decide (at_ r m.to.toNat < at_ r k) | none=>false)) (fun j=>(j:Int)) (by omega) (fun j hj=>by
    rw [zl (List.getElem?_eq_getElem hj)]
    simp only [ZaI,WJ,hrT j hj,idxr k hk,List.getElem?_eq_getElem hj]
    cases h1:decide (0≤at_ r T[j].to.toNat)<;>cases h2:decide (at_ r T[j].to.toNat < at_ r k)<;>rfl)]
  simp only [ZaI]
  obtain ⟨m,hm,h1,h2⟩:=hE
  obtain ⟨j,hj,rfl⟩:=List.getElem_of_mem hm
  cases hf:(List.range T.length).find? (fun j=>!!(match T[j]? with | some m=>decide (0≤at_ r m.to.toNat)&&decide (at_ r m.to.toNat < at_ r k) | none=>false)) with
  | none=>
    have:=wy hf j hj
    rw [List.getElem?_eq_getElem hj] at this
    simp only [Bool.not_eq_true',Bool.and_eq_false_iff,decide_eq_false_iff_not] at this
    omega
  | some i=>
    obtain ⟨hi,g1,_⟩:=wz hf
    rw [List.getElem?_eq_getElem hi] at g1
    simp only [Bool.not_eq_false',Bool.and_eq_true,decide_eq_true_eq] at g1
    exact Ret.some ⟨i,rfl,hi,g1.1,by omega⟩
theorem zcX {q:Zah} {T:List Zar} (ho:q.own=true) (h:T.map (·.step)=zE c Zaa q):∃ h0:0 < T.length,T[0].step = -2:=by
  have e:zE c Zaa q = -2::(bif decide (c.Zat≤q.state.day) then [] else (bif q.own then [] else [-1])++jh c Zaa q c.Zaj.length):=by
    unfold zE;rw [ho];rfl
  rw [e] at h
  cases T with
  | nil=>cases h
  | cons t T=>
    simp only [List.map_cons,List.cons.injEq] at h
    exact ⟨by simp,h.1⟩
theorem zgk (hc:c.Ok) (A:ArOk c Zaa (atO s0) a) {r:List Int} (hl:r.length=a.Zau.length) (hr:yp (gm c a) (at_ r)) (hbd:∀ i,i < a.Zau.length→at_ r i≤1500) (h0:0≤at_ r 0) :
    Ret (ZD a r) (PlayT c Zaa s0):=by
  have hn:a.Zau.length≤1500:=A.F.inv.len
  have hm:=A.F.len
  have hpos:=A.pos
  have hfst:=A.F.first
  have idxr:∀ k:Nat,k < a.Zau.length→ze r (k:Int)=some (at_ r k):=fun k hk=>zl (xB (by omega))
  unfold ZD
  refine Ret.bind (P:=PlayT c Zaa s0) ?_ (fun v hv=>Ret.some hv)
  refine Ret.bind (P:=PlayT c Zaa s0) ?_ (fun v hv=>Ret.some hv)
  refine Ret.iter (fun s:List Int×Int=>∃ (k:Nat) (hk:k < a.Zau.length),s.2=(k:Int)∧0≤at_ r k∧a.Zau[k].state=stF c s0 s.1∧TrOk c Any s0 s.1 ∧
    (∀ (k:Nat) (hk:k < s.1.length),(s.1[k] = -1∨Qr c (stF c s0 (s.1.take k)) s.1[k]≠Zaa)∧jA c (stF c s0 (s.1.take k)) Zaa=false)∧(s.1.length:Int)+at_ r k≤1500) (fun s=>(at_ r s.2.toNat).toNat) ?_ ?_
  · refine ⟨0,hpos,rfl,h0,?_,.nil trivial,fun k hk=>by simp at hk,by have:=hbd 0 hpos;simp;omega⟩
    rw [List.getElem?_eq_getElem hpos] at hfst
    rw [Option.some.inj hfst];rfl
  rintro ⟨l,i⟩ ⟨k,hk,hi,hrk,hst,htr,hoth,hlen⟩
  simp only at hi hst htr hoth hlen ⊢
  subst hi
  refine Ret.bindE (idxr k hk) ?_
  have hlk:=A.lost hk
  rw [hst] at hlk
  refine Ret.ite (fun h => ?_) (fun h => ?_)
  · have hp:0 < at_ r k:=of_decide_eq_true h
    have hnl:jA c (stF c s0 l) Zaa=false:=by
      rw [←hlk]
      cases e:(gm c a).lost k with
      | false=>rfl
      | true=>have:=(Jq hr (i:=k) hk).2 e;omega
    obtain ⟨T,hT,hst2,_⟩:=A.mv hk
    have hTl:=A.len hc hk hT
    obtain ⟨hne,hO,hE⟩:=zgj A hr hk hT hp
    refine Ret.bindE (zl (List.getElem?_eq_getElem hk)) ?_
    refine Ret.ite (fun ho => ?_) (fun ho => ?_)
    · refine Ret.bindE (zl hT) ?_
      obtain ⟨hT0,hs2⟩:=zcX ho hst2
      refine Ret.bindE (v:=T[0]) (zl (i:=0) (List.getElem?_eq_getElem hT0)) ?_
      have hmem:=List.getElem_mem hT0
      obtain ⟨_,t2,t3,t4⟩:=A.tgt hk hT hmem
      obtain ⟨g1,g2⟩:=hO ho _ hmem
      refine Ret.some ⟨⟨T[0].to.toNat,t3,(Int.toNat_of_nonneg t2).symm,g1,?_,htr,hoth,by simp only;omega⟩,?_⟩
      · rw [t4,hs2,zbl];exact hst
      · simp only [Int.toNat_natCast];omega
    · refine Ret.bindE (zl hT) ?_
      refine Ret.bind (zeQ A hl hk hT hTl (hE ho)) ?_
      rintro n ⟨j,rfl,hj,g1,g2⟩
      refine Ret.bindE (zl hT) ?_
      refine Ret.bindE (zl (List.getElem?_eq_getElem hj)) ?_
      have hmem:=List.getElem_mem hj
      obtain ⟨t1,t2,t3,t4⟩:=A.tgt hk hT hmem
      refine Ret.bindE (jC (by simp;omega)) ?_
      have hmv:T[j].step ≠ -2 ∧ -1≤T[j].step∧T[j].step < c.Zaj.length∧a.Zau[k].state.day < c.Zat∧(T[j].step = -1∨Qr c a.Zau[k].state T[j].step≠Zaa):=by
        rcases wG.1 t1 with ⟨e,_⟩ | ⟨hd,_,e⟩ | ⟨hd,i,hi,hmb,e⟩
        · rw [ho] at e;cases e
        · rw [e];exact ⟨by omega,by omega,by omega,hd,.inl rfl⟩
        · rw [e]
          refine ⟨by omega,by omega,by omega,hd,.inr ?_⟩
          unfold mvB at hmb
          rw [List.getElem?_eq_getElem hi] at hmb
          simp only [ho,Bool.and_eq_true,beq_iff_eq] at hmb
          unfold Qr
          rw [if_neg (by omega),Int.toNat_natCast,List.getElem?_eq_getElem hi]
          exact beq_eq_false_iff_ne.1 hmb.1
      obtain ⟨m1,m2,m3,m4,m5⟩:=hmv
      have hvs:=A.F.inv.vs _ (List.getElem_mem hk)
      rw [hst] at m4 m5
      refine Ret.some ⟨⟨T[j].to.toNat,t3,(Int.toNat_of_nonneg t2).symm,g1,?_,htr.snoc m4 m2 m3 trivial,fun q hq => ?_,by simp only [List.length_append,List.length_cons,List.length_nil];omega⟩,?_⟩
      · rw [t4,zbm c _ m2,ky]
        simp only [hst]
      · rw [List.length_append] at hq
        simp only [List.length_cons,List.length_nil] at hq
        by_cases e:q=l.length
        · subst e
          have e1:(l++[T[j].step]).take l.length=l:=by simp
          rw [e1]
          simp only [List.getElem_append_right (Nat.le_refl _),Nat.sub_self,List.getElem_cons_zero]
          exact ⟨m5,hnl⟩
        · have hq2:q < l.length:=by omega
          rw [List.take_append_of_le_length (by omega),List.getElem_append_left hq2]
          exact hoth q hq2
      · simp only [Int.toNat_natCast];omega
  · have hz:at_ r k=0:=by have:=of_decide_eq_false h;omega
    exact Ret.some ⟨htr,hoth,by rw [←hlk];exact (Jq hr (i:=k) hk).1 hz,by omega⟩
end
end
section
structure ForcedL (c:Zab) (s0:Zac) (i:Nat) (F:List Zai):Prop where
  el:∀ f∈F,f.kind=1∧f.clause = -1∧f.other = -1∧∃ p:Nat,p < i∧f.Zaa=(p:Int)∧qW c (p:Int) (atO s0)=false∧PlayT c (p:Int) s0 f.ZaA
  has:∀ p:Nat,p < i→qW c (p:Int) (atO s0)=false→∃ f∈F,f.Zaa=(p:Int)
  ord:F.Pairwise fun f g=>f.Zaa < g.Zaa
  len:F.length≤i
def qX (i:Nat):Zai:={kind:=2,Zaa := -1,clause:=(i:Int),other := -1,ZaA:=[]}
def jJ (i:Nat):Zai:={kind:=3,Zaa := -1,clause:=(i:Int),other := -1,ZaA:=[]}
def xg (L:List Zac) (n:Nat):List Zai:=((List.range n).filter (wh L)).map qX
def xC (c:Zab) (L:List Zac) (n:Nat):List Zai:=((List.range n).filter fun i=>!wh L i&&unB c L i).map jJ
def FindOk (c:Zab) (s0:Zac) (L:List Zac) (l:List Zai):Prop:=∃ F C,l=F++xg L c.Zaf.length++xC c L c.Zaf.length++C∧ForcedL c s0 c.Zao.toNat F∧ClashL c s0 L c.Zaf.length 0 C
theorem Jt (L:List Zac) (n:Nat):(xg L n).length≤n:=by
  unfold xg;rw [List.length_map]
  exact Nat.le_trans (List.length_filter_le _ _) (by simp)
theorem Ju (c:Zab) (L:List Zac) (n:Nat):(xC c L n).length≤n:=by
  unfold xC;rw [List.length_map]
  exact Nat.le_trans (List.length_filter_le _ _) (by simp)
theorem zcY (L:List Zac) (n:Nat):xg L (n+1)=xg L n++(bif wh L n then [qX n] else []):=by
  unfold xg;rw [List.range_succ,List.filter_append,List.map_append]
  cases h:wh L n<;>simp [h]
theorem zcZ (c:Zab) (L:List Zac) (n:Nat):xC c L (n+1)=xC c L n++(bif !wh L n&&unB c L n then [jJ n] else []):=by
  unfold xC;rw [List.range_succ,List.filter_append,List.map_append]
  cases h:(!wh L n&&unB c L n)<;>simp [h]
section
variable {c:Zab} {s0:Zac} {L:List Zac}
theorem ForcedL.skip {i:Nat} {F:List Zai} (h:ForcedL c s0 i F) (hn:qW c (i:Int) (atO s0)=true):ForcedL c s0 (i+1) F where
  el:=fun f hf=>by
    obtain ⟨h1,h2,h3,p,h4,h5⟩:=h.el f hf
    exact ⟨h1,h2,h3,p,by omega,h5⟩
  has:=fun p hp hs=>by
    by_cases e:p=i
    · subst e;rw [hn] at hs;cases hs
    · exact h.has p (by omega) hs
  ord:=h.ord
  len:=by have:=h.len;omega
theorem ForcedL.push {i:Nat} {F:List Zai} (h:ForcedL c s0 i F) (hn:qW c (i:Int) (atO s0)=false) {tr:List Int} (ht:PlayT c (i:Int) s0 tr):ForcedL c s0 (i+1) (F++[{kind:=1,Zaa:=(i:Int),clause := -1,other := -1,ZaA:=tr}]) where
  el:=fun f hf=>by
    rcases List.mem_append.1 hf with hf | hf
    · obtain ⟨h1,h2,h3,p,h4,h5⟩:=h.el f hf
      exact ⟨h1,h2,h3,p,by omega,h5⟩
    · rw [List.mem_singleton.1 hf]
      exact ⟨rfl,rfl,rfl,i,by omega,rfl,hn,ht⟩
  has:=fun p hp hs=>by
    by_cases e:p=i
    · subst e;exact ⟨_,List.mem_append.2 (.inr (List.mem_singleton.2 rfl)),rfl⟩
    · obtain ⟨f,h1,h2⟩:=h.has p (by omega) hs
      exact ⟨f,by simp [h1],h2⟩
  ord:=List.pairwise_append.2 ⟨h.ord,by simp,fun f hf g hg=>by
    rw [List.mem_singleton.1 hg]
    obtain ⟨_,_,_,p,h4,h5,_⟩:=h.el f hf
    rw [h5];simp only;omega⟩
  len:=by have:=h.len;simp;omega
theorem zc0 {s1:Zac} (h1:qB c=some (s0,0)) (h2:qB c=some (s1,0)):s1=s0:=by
  rw [h1] at h2;cases h2;rfl
theorem zgl (hc:c.Ok):Ret (jT c) (fun r=>(r.2≠0∧r.1=[])∨(r.2=0∧∃ s0 L,qB c=some (s0,0)∧VS c s0∧jS c=some (L,0)∧ReachOk c s0 L∧(∀ p:Nat,(p:Int) < c.Zao→∃ a,jg c (p:Int)=some (a,0)∧ArOk c (p:Int) (atO s0) a)∧FindOk c s0 L r.1)):=by
  by_cases hv:(qd c).1=0
  case neg=>
    have hs:=YA hc hv
    have hr:jS c=some ([],1):=by unfold jS;rw [hs];rfl
    unfold jT
    refine Ret.bindE hr ?_
    exact Ret.some (.inl ⟨by simp,rfl⟩)
  obtain ⟨⟨s0,e0⟩,hst,h0,hvs⟩:=YB hc hv
  simp only at h0 hvs
  subst h0
  have ho:=hc.off.lt (by omega:0 < 8)
  have sm:=qn ho hv
  have s1:=sm.Zao
  have s2:=sm.Zaj
  have s3:=sm.Zaf
  obtain ⟨⟨L,e⟩,hr,hR⟩:=zeF hc hst hvs
  unfold jT
  refine Ret.bindE hr ?_
  simp only at hR
  rcases hR with ⟨he,h⟩ | ⟨he,hL⟩
  case inr=>
    rw [show (((L,e):List Zac×Int).2 == 0)=false from beq_eq_false_iff_ne.2 he]
    exact Ret.some (.inl ⟨he,rfl⟩)
  subst he
  refine Ret.ite (fun _ => ?_) (fun h=>by cases h)
  obtain ⟨np,hnp⟩:∃ np:Nat,c.Zao=(np:Int):=⟨c.Zao.toNat,by omega⟩
  have hlen:=h.inv.len
  refine Ret.bind (P:=fun o:List Zai ⊕ Int=>(∃ F,o=.inl F∧ForcedL c s0 np F∧∀ p:Nat,p < np→∃ a,jg c (p:Int)=some (a,0)∧ArOk c (p:Int) (atO s0) a)∨(∃ e,o=.inr e∧e≠0)) ?_ ?_
  · rw [hnp]
    refine Ret.forL (fun i F=>ForcedL c s0 i F∧∀ p:Nat,p < i→∃ a,jg c (p:Int)=some (a,0)∧ArOk c (p:Int) (atO s0) a) (by omega) ⟨⟨fun f hf=>by simp at hf,fun p hp=>by omega,by simp,by simp⟩,fun p hp=>by omega⟩ (fun i F hi hF => ?_) (fun F hF=>.inl ⟨F,rfl,hF⟩)
    obtain ⟨hF,hBs⟩:=hF
    have hFl:=hF.len
    obtain ⟨⟨a,e⟩,hb,hB⟩:=zhJ hc (i:Int)
    refine Ret.bind (P:=fun o:List Zai ⊕ Int=>(∃ F',o=.inl F'∧ForcedL c s0 (i+1) F'∧e=0∧ArOk c (i:Int) (atO s0) a)∨(∃ e,o=.inr e∧e≠0)) ?_ ?_
    · refine Ret.bindE hb ?_
      rcases hB with ⟨he,ha⟩ | ⟨he,s1',hst',hv1,A⟩
      · simp only at he
        rw [show (((a,e):ZaF×Int).2 == 0)=false from beq_eq_false_iff_ne.2 he]
        exact Ret.some (.inr ⟨e,rfl,he⟩)
      · simp only at he A
        subst he
        have:=zc0 hst hst'
        subst this
        refine Ret.ite (fun _ => ?_) (fun h=>by cases h)
        obtain ⟨r,hrr,hl,hro,hbd⟩:=YD hc A
        refine Ret.bindE hrr ?_
        have hl:r.length=a.Zau.length:=hl
        have hpos:=A.pos
        refine Ret.bindE (v:=at_ r 0) (zl (i:=0) (xB (by omega))) ?_
        have hfst:=A.F.first
        rw [List.getElem?_eq_getElem hpos] at hfst
        have hp0:a.Zau[0]=atO s1':=Option.some.inj hfst
        have hrp:=(zeL A hro hpos).safe
        rw [hp0] at hrp
        refine Ret.ite (fun hd => ?_) (fun hd => ?_)
        · have hd:=of_decide_eq_true hd
          refine Ret.bind (zgk hc A hl hro hbd hd) ?_
          intro tr htr
          refine Ret.bindE (x:=jb 1 (i:Int) (-1) (-1) tr) rfl ?_
          refine Ret.bindE (jC (by simp;omega)) ?_
          have hns:qW c (i:Int) (atO s1')=false:=by
            cases hq:qW c (i:Int) (atO s1') with
            | false=>rfl
            | true=>have:=hrp.2 (Za.1 hq);omega
          exact Ret.some (.inl ⟨_,rfl,hF.push hns htr,rfl,A⟩)
        · have hd:=of_decide_eq_false hd
          have:=(hro 0 hpos).1
          have hsf:qW c (i:Int) (atO s1')=true:=Za.2 (hrp.1 (by omega))
          exact Ret.some (.inl ⟨_,rfl,hF.skip hsf,rfl,A⟩)
    · rintro o (⟨F',rfl,h1,rfl,h2⟩ | ⟨e',rfl,he'⟩)
      · refine Ret.some ⟨h1,fun p hp => ?_⟩
        by_cases e:p=i
        · subst e;exact ⟨a,hb,h2⟩
        · exact hBs p (by omega)
      · exact Ret.some (.inr ⟨e',rfl,he'⟩)
  rintro o (⟨F,rfl,hF,hBs⟩ | ⟨e,rfl,he⟩)
  case inr=>exact Ret.some (.inl ⟨he,rfl⟩)
  simp only [Sum.elim_inl]
  have hFl:=hF.len
  refine Ret.bind (P:=fun o:(List Zai×List Zai) ⊕ Unit=>o=.inl (F++xg L c.Zaf.length,xC c L c.Zaf.length)) (Ret.forL (fun i s=>s=(F++xg L i,xC c L i)) (by omega) (by simp [xg,xC]) (fun i s hi hs => ?_) (fun s hs=>by rw [hs])) ?_
  · subst hs
    have l1:=Jt L i
    have l2:=Ju c L i
    refine Ret.bind (P:=fun s=>s=(F++xg L (i+1),xC c L (i+1))) ?_ (fun s hs=>Ret.some hs)
    rw [zcY,zcZ]
    unfold Jd
    refine Ret.bindE (XI h hi) ?_
    refine Ret.ite (fun hd => ?_) (fun hd => ?_)
    · refine Ret.bindE (x:=jb 2 (-1) (i:Int) (-1) []) rfl ?_
      refine Ret.bindE (jC (by simp;omega)) ?_
      exact Ret.some (by rw [hd];simp [qX])
    · refine Ret.bindE (zeO h hi) ?_
      refine Ret.ite (fun hu => ?_) (fun hu => ?_)
      · refine Ret.bindE (x:=jb 3 (-1) (i:Int) (-1) []) rfl ?_
        refine Ret.bindE (jC (by simp;omega)) ?_
        exact Ret.some (by rw [hd,hu];simp [jJ])
      · exact Ret.some (by rw [hd,hu];simp)
  rintro o rfl
  simp only [Sum.elim_inl]
  have l1:=Jt L c.Zaf.length
  have l2:=Ju c L c.Zaf.length
  refine Ret.bindE (jC (by simp;omega)) ?_
  refine Ret.bind (zbn hc h hvs) ?_
  intro C hC
  have hCl:=hC.len
  have hbig:c.Zaf.length*c.Zaf.length≤400*400:=Nat.mul_le_mul (by omega) (by omega)
  refine Ret.bindE (jC (by simp;omega)) ?_
  exact Ret.some (.inr ⟨rfl,s0,L,hst,hvs,hr,h,fun p hp=>hBs p (by omega),F,C,rfl,by rw [hnp];exact hF,hC⟩)
end
end
end Go.Proofs.YtlpmnmbebkdocaaGreatDoor
namespace Go.Proofs.YtlpmnmbebkdocaaGreatDoor
set_option linter.unusedSimpArgs false
set_option linter.unusedVariables false
set_option maxRecDepth 100000
def Le {α:Type} (x y:Option α):Prop:=∀ r,x=some r→y=some r
theorem Le.refl {α:Type} (x:Option α):Le x x:=fun _ h=>h
theorem Le.bind {α β:Type} {x y:Option α} {f g:α→Option β} (h:Le x y) (hf:∀ a,Le (f a) (g a)):Le (x.bind f) (y.bind g):=fun r hr=>by
  obtain ⟨a,h1,h2⟩:=Option.bind_eq_some_iff.1 hr
  rw [h a h1];exact hf a r h2
theorem Le.cond {α:Type} (b:Bool) {x y x' y':Option α} (h1:Le x x') (h2:Le y y'):Le (bif b then x else y) (bif b then x' else y'):=by
  cases b
  · exact h2
  · exact h1
theorem Le.elim {α β γ:Type} {f f':α→Option γ} {g g':β→Option γ} (h1:∀ a,Le (f a) (f' a)) (h2:∀ a,Le (g a) (g' a)) (o:α ⊕ β):Le (Sum.elim f g o) (Sum.elim f' g' o):=by
  cases o
  · exact h1 _
  · exact h2 _
theorem Le.forFrom {σ ρ:Type} {f g:Nat→σ→Option (σ ⊕ ρ)} (h:∀ i s,Le (f i s) (g i s)):∀ (k i:Nat) (s:σ),Le (forFrom f i k s) (forFrom g i k s)
  | 0,i,s=>Le.refl _
  | k+1,i,s=>fun r hr=>by
    simp only [Go.Proofs.YtlpmnmbebkdocaaGreatDoor.forFrom] at hr ⊢
    split at hr
    · cases hr
    · rename_i e;rw [h i s _ e];exact hr
    · rename_i e;rw [h i s _ e];exact Le.forFrom h k (i+1) _ r hr
theorem Le.forR {σ ρ:Type} {f g:Nat→σ→Option (σ ⊕ ρ)} (h:∀ i s,Le (f i s) (g i s)) (n:Int) (s:σ):Le (forR n f s) (forR n g s):=fun r hr=>by
  obtain ⟨h1,h2⟩:=V7 hr
  rw [ZY h1];exact Le.forFrom h _ _ _ r h2
theorem Le.iterN {σ ρ:Type} {f g:σ→Option (σ ⊕ ρ)} (h:∀ s,Le (f s) (g s)):∀ (k:Nat) (s:σ),Le (Go.Proofs.YtlpmnmbebkdocaaGreatDoor.iterN f k s) (Go.Proofs.YtlpmnmbebkdocaaGreatDoor.iterN g k s)
  | 0,s=>Le.refl _
  | k+1,s=>fun r hr=>by
    simp only [Go.Proofs.YtlpmnmbebkdocaaGreatDoor.iterN] at hr ⊢
    split at hr
    · cases hr
    · rename_i e;rw [h s _ e];exact hr
    · rename_i e;rw [h s _ e];exact Le.iterN h k _ r hr
theorem Le.iter {σ ρ:Type} {f g:σ→Option (σ ⊕ ρ)} (h:∀ s,Le (f s) (g s)) (k:Nat) (s:σ):Le (Go.Proofs.YtlpmnmbebkdocaaGreatDoor.iterN f k s) (Go.Proofs.YtlpmnmbebkdocaaGreatDoor.iter g s):=fun r hr=>wu.2 ⟨k,Le.iterN h k s r hr⟩
def VI:Nat→Nat→List UInt8
  | 0,u=>[]
  | f+1,u=>if u < 10 then [UInt8.ofNat (48+u)] else VI f (u / 10)++[UInt8.ofNat (48+u % 10)]
theorem VJ:∀ (f u:Nat),u < 10 ^ (f+1)→VI (f+1) u=Lib.decDigits u
  | 0,u,h=>by
    rw [Lib.decDigits]
    simp only [VI]
    rw [if_pos (by omega),dif_pos (by omega)]
  | f+1,u,h=>by
    rw [Lib.decDigits,VI]
    by_cases hu:u < 10
    · rw [if_pos hu,dif_pos hu]
    · rw [if_neg hu,dif_neg hu,VJ f (u / 10) (by rw [Nat.pow_succ] at h;omega)]
def jY (n:Int):Bool:=decide (-1000 < n)&&decide (n < 1000)
def zc1 (n:Int):List UInt8:=if n < 0 then 45::VI 4 n.natAbs else VI 4 n.toNat
theorem zgm {n:Int} (h:jY n=true):zc1 n=Lib.itoa n:=by
  simp only [jY,Bool.and_eq_true,decide_eq_true_eq] at h
  unfold zc1 Lib.itoa
  rw [VJ 3 n.natAbs (by omega),VJ 3 n.toNat (by omega)]
def jZ (n:Int):List UInt8:=zc1 n++[32]
theorem jD {n:Int} (h:jY n=true):jZ n=zB n:=by unfold jZ zB;rw [zgm h]
def Kf (m:zw):List UInt8:=jZ m.Zan++jZ m.left++jZ m.got++jZ m.Zav++zV m.ZaB
def ZL (m:zw):Bool:=jY m.Zan&&(jY m.left&&(jY m.got&&jY m.Zav))
def W7 (p:Zah):List UInt8:=zV p.own++jZ p.state.day++p.state.Zag.flatMap jZ++p.state.used.flatMap zV++p.state.Zal.flatMap Kf
def Jv (p:Zah):Bool:=jY p.state.day&&(p.state.Zag.all jY&&p.state.Zal.all ZL)
theorem xR {α β:Type} {f g:α→List β}:∀ {l:List α},(∀ a∈l,f a=g a)→l.flatMap f=l.flatMap g
  | [],_=>rfl
  | a::l,h=>by rw [List.flatMap_cons,List.flatMap_cons,h a List.mem_cons_self,xR fun b hb=>h b (List.mem_cons_of_mem _ hb)]
theorem zgn {p:Zah} (h:Jv p=true):W7 p=qp p:=by
  simp only [Jv,Bool.and_eq_true,List.all_eq_true] at h
  unfold W7 qp
  rw [jD h.1,xR (f:=jZ) (g:=zB) (fun a ha=>jD (h.2.1 a ha)),xR (f:=Kf) (g:=qO) (fun a ha=>by
    have:=h.2.2 a ha
    simp only [ZL,Bool.and_eq_true] at this
    show jZ a.Zan++jZ a.left++jZ a.got++jZ a.Zav++zV a.ZaB=zB a.Zan++zB a.left++zB a.got++zB a.Zav++zV a.ZaB
    rw [jD this.1,jD this.2.1,jD this.2.2.1,jD this.2.2.2])]
theorem jk {n:Int} (h:jY n=true):je n=true:=by
  simp only [jY,je,Bool.and_eq_true,decide_eq_true_eq] at h ⊢
  omega
def yz (p:Zah):Option ByteArray:=bif Jv p&&decide ((W7 p).length≤1000000000) then some ⟨(W7 p).toArray⟩ else none
theorem zbU (p:Zah):Le (yz p) (jI p):=fun r h=>by
  unfold yz at h
  cases hq:(Jv p&&decide ((W7 p).length≤1000000000)) with
  | false=>rw [hq] at h;cases h
  | true=>
    rw [hq] at h
    simp only [Bool.and_eq_true,decide_eq_true_eq] at hq
    have e:=zgn hq.1
    unfold jI
    rw [if_pos,←e]
    · exact h
    · have h1:=hq.1
      simp only [Jv,Bool.and_eq_true,List.all_eq_true] at h1
      simp only [okP,Bool.and_eq_true,decide_eq_true_eq,List.all_eq_true]
      refine ⟨⟨⟨jk h1.1,fun x hx=>jk (h1.2.1 x hx)⟩,fun m hm => ?_⟩,by rw [←e];exact hq.2⟩
      have:=h1.2.2 m hm
      simp only [ZL,Bool.and_eq_true] at this
      exact ⟨⟨⟨jk this.1,jk this.2.1⟩,jk this.2.2.1⟩,jk this.2.2.2⟩
noncomputable def W8 (p1:Zab) (p2:Int) (p3:List Int) (p4:Nat) (p5:List Bool) (p6:Nat) (p7:List zw) (p8:Nat):Option ((List zw)):=
  (Option.bind (iterN (σ:=Bool×(List zw)) (ρ:=(List zw)) (fun s1=>(bif s1.1 then (Option.bind (forR (σ:=Bool×(List zw)) (ρ:=Unit) (p1.Zaf.length:Int) (fun i2 s2=>(Option.bind (Option.bind (ze p1.Zaf (i2:Int)) fun e1=>(Option.bind (eqN p4 p3.length) fun g1=>(Option.bind (eqN p6 p5.length) fun g2=>(Option.bind (eqN p8 s2.2.length) fun g3=>(Option.bind (vt p1 ({day:=p2,Zag:=p3,used:=p5,Zal:=s2.2}:Zac) (i2:Int)) fun r1=>(bif r1 then (Option.bind (bif (e1.kind == 4) then some (-1) else (Option.bind (zk p4 e1.Zap) fun k1=>(Option.bind (p3[k1]?) fun e2=>some e2))) fun (v1:Int)=>(Option.bind (zk p8 (i2:Int)) fun k2=>(Option.bind (s2.2[k2]?) fun e3=>some (true,(s2.2.set k2 ({Zan:=1,left:=e1.after,got:=0,Zav:=v1,ZaB:=false}:zw)))))) else some (s2.1,s2.2))))))) fun (v2:Bool×(List zw))=>some (.inl (v2.1,v2.2)))) (false,s1.2)) (Sum.elim (fun (s2:Bool×(List zw))=>some (.inl (s2.1,s2.2))) (fun _=>none))) else some (.inr s1.2))) 40 (true,p7)) (fun (y1:(List zw))=>some y1))
theorem zaM (p1:Zab) (p2:Int) (p3:List Int) (p4:Nat) (p5:List Bool) (p6:Nat) (p7:List zw) (p8:Nat):Le (W8 p1 p2 p3 p4 p5 p6 p7 p8) (we p1 p2 p3 p4 p5 p6 p7 p8):=by
  unfold W8 we
  repeat' (first | with_reducible exact Le.refl _ | with_reducible refine Le.bind ?_ (fun _ => ?_) | with_reducible refine Le.cond _ ?_ ?_ | with_reducible refine Le.forR (fun _ _ => ?_) _ _ | with_reducible refine Le.iter (fun _ => ?_) _ _ | with_reducible refine Le.elim (fun _ => ?_) (fun _ => ?_) _)
noncomputable def ZM (c:Zab):Option (Zac×Int):=
  (Option.bind (vr c) fun r1=>(bif (r1.1 == 0) then (Option.bind (jn 8 c.Zag) fun e1=>(Option.bind (mkN 1 (c.Zaj.length:Int)) fun k1=>(Option.bind (mkN 40 (c.Zaf.length:Int)) fun k2=>(Option.bind (forR (σ:=(List zw)) (ρ:=Unit) (c.Zaf.length:Int) (fun i1 s1=>(Option.bind (Option.bind (ze c.Zaf (i1:Int)) fun e2=>(Option.bind (zk k2 (i1:Int)) fun k3=>(Option.bind (s1[k3]?) fun e3=>(bif e2.Zaz then (Option.bind (zk k2 (i1:Int)) fun k4=>(Option.bind ((s1.set k3 ({Zan:=0,left:=0,got:=0,Zav:=(-1),ZaB:=false}:zw))[k4]?) fun e4=>some ((s1.set k3 ({Zan:=0,left:=0,got:=0,Zav:=(-1),ZaB:=false}:zw)).set k4 ({e4 with Zan:=5}:zw)))) else some (s1.set k3 ({Zan:=0,left:=0,got:=0,Zav:=(-1),ZaB:=false}:zw)))))) fun (v1:(List zw))=>some (.inl v1))) (List.replicate k2 ({Zan:=0,left:=0,got:=0,Zav:=0,ZaB:=false}:zw))) (Sum.elim (fun (s1:(List zw))=>(Option.bind (W8 c 0 e1 e1.length (List.replicate k1 false) k1 s1 k2) fun r2=>(Option.bind (eqN k1 (List.replicate k1 false).length) fun g1=>(Option.bind (eqN k2 r2.length) fun g2=>some (({day:=0,Zag:=e1,used:=(List.replicate k1 false),Zal:=r2}:Zac),0))))) (fun _=>none)))))) else some (({day:=0,Zag:=[],used:=[],Zal:=[]}:Zac),1)))
theorem XK (c:Zab):Le (ZM c) (qB c):=by
  unfold ZM qB
  repeat' (first | with_reducible exact Le.refl _ | with_reducible exact zaM _ _ _ _ _ _ _ _ | with_reducible refine Le.bind ?_ (fun _ => ?_) | with_reducible refine Le.cond _ ?_ ?_ | with_reducible refine Le.forR (fun _ _ => ?_) _ _ | with_reducible refine Le.iter (fun _ => ?_) _ _ | with_reducible refine Le.elim (fun _ => ?_) (fun _ => ?_) _)
noncomputable def vH (l:List Int) (v:Int):Option (Int×Bool):=
  (Option.bind (Option.bind (iterN (σ:=Int×Int) (ρ:=Int) (fun s1=>(bif decide (s1.1 < s1.2) then (Option.bind (QY .u64 .u64 (IntKind.u64.wrap (IntKind.i64.wrap (s1.1+s1.2))) 1) fun e1=>(Option.bind (ze l (IntKind.i64.wrap e1)) fun e2=>(Option.bind (Zy e2 v) fun r1=>(bif r1 then some (.inl ((IntKind.i64.wrap ((IntKind.i64.wrap e1)+1)),s1.2)) else some (.inl (s1.1,(IntKind.i64.wrap e1))))))) else some (.inr s1.1))) 40 (0,(l.length:Int))) (fun (y1:Int)=>some y1)) fun (v1:Int)=>(Option.bind (bif decide (v1 < (l.length:Int)) then (Option.bind (ze l v1) fun e3=>(bif (e3 == v) then some true else (Option.bind (yO e3) fun r2=>(bif r2 then (Option.bind (yO v) fun r3=>some r3) else some false)))) else some false) fun v2=>some (v1,v2)))
theorem W9 (l:List Int) (v:Int):Le (vH l v) (ju l v):=by
  unfold vH ju
  repeat' (first | with_reducible exact Le.refl _ | with_reducible refine Le.bind ?_ (fun _ => ?_) | with_reducible refine Le.cond _ ?_ ?_ | with_reducible refine Le.forR (fun _ _ => ?_) _ _ | with_reducible refine Le.iter (fun _ => ?_) _ _ | with_reducible refine Le.elim (fun _ => ?_) (fun _ => ?_) _)
noncomputable def zc2 (p1:Zab) (p2:Int) (p3:List Int) (p4:Nat) (p5:List Bool) (p6:Nat) (p7:List zw) (p8:Nat):Option ((List zw)):=
  (Option.bind (vH p1.off p2) fun r1=>(Option.bind (Option.bind (xd p1 p2 p3 p4 p5 p6 p7 p8) fun r2=>(Option.bind (forR (σ:=(List zw)) (ρ:=(List zw)) (p8:Int) (fun i1 s1=>(Option.bind (Option.bind (zk p8 (i1:Int)) fun k1=>(Option.bind (s1[k1]?) fun e1=>(Option.bind (jq e1) fun r3=>(bif r3 then (Option.bind (Option.bind (ze p1.Zaf (i1:Int)) fun e2=>(Option.bind (Option.bind (zk p8 (i1:Int)) fun k2=>(Option.bind (s1[k2]?) fun e3=>(bif e3.ZaB then some true else (bif e2.ZaE then some r1.2 else some false)))) fun v1=>(bif v1 then some s1 else (Option.bind (zk p8 (i1:Int)) fun k3=>(Option.bind (s1[k3]?) fun e4=>(Option.bind (zk p8 (i1:Int)) fun k4=>(Option.bind ((s1.set k3 ({e4 with left:=(IntKind.i64.wrap (e4.left - 1))}:zw))[k4]?) fun e5=>(bif (e5.left == 0) then (Option.bind (bif (e2.kind == (0:Int)) then none else (bif (e2.kind == (1:Int)) then (Option.bind (WE (i1:Int) p1 p2 p3 p4 p5 p6 (s1.set k3 ({e4 with left:=(IntKind.i64.wrap (e4.left - 1))}:zw)) p8) fun r7=>some r7) else (bif (e2.kind == (2:Int)) then (Option.bind (wg (i1:Int) p1 p2 p3 p4 p5 p6 (s1.set k3 ({e4 with left:=(IntKind.i64.wrap (e4.left - 1))}:zw)) p8) fun r6=>some r6) else (bif (e2.kind == (3:Int)) then (Option.bind (kR (i1:Int) p1 p2 p3 p4 p5 p6 (s1.set k3 ({e4 with left:=(IntKind.i64.wrap (e4.left - 1))}:zw)) p8) fun r5=>some r5) else (bif (e2.kind == (4:Int)) then (Option.bind (kR (i1:Int) p1 p2 p3 p4 p5 p6 (s1.set k3 ({e4 with left:=(IntKind.i64.wrap (e4.left - 1))}:zw)) p8) fun r4=>some r4) else none))))) fun v2=>some v2) else some (s1.set k3 ({e4 with left:=(IntKind.i64.wrap (e4.left - 1))}:zw)))))))))) fun (v3:(List zw))=>some ((!true),v3)) else some (false,s1))))) fun (v4:Bool×(List zw))=>(bif v4.1 then some (.inr v4.2) else some (.inl v4.2)))) p7) (Sum.elim (fun (s1:(List zw))=>some s1) (fun (y1:(List zw))=>some y1)))) fun (v5:(List zw))=>(Option.bind (W8 p1 (IntKind.i64.wrap (p2+1)) p3 p4 p5 p6 v5 p8) fun r8=>some r8)))
theorem zjv (p1:Zab) (p2:Int) (p3:List Int) (p4:Nat) (p5:List Bool) (p6:Nat) (p7:List zw) (p8:Nat):Le (zc2 p1 p2 p3 p4 p5 p6 p7 p8) (d_70a p1 p2 p3 p4 p5 p6 p7 p8):=by
  unfold zc2 d_70a
  repeat' (first | with_reducible exact Le.refl _ | with_reducible exact W9 _ _ | with_reducible exact zaM _ _ _ _ _ _ _ _ | with_reducible refine Le.bind ?_ (fun _ => ?_) | with_reducible refine Le.cond _ ?_ ?_ | with_reducible refine Le.forR (fun _ _ => ?_) _ _ | with_reducible refine Le.iter (fun _ => ?_) _ _ | with_reducible refine Le.elim (fun _ => ?_) (fun _ => ?_) _)
noncomputable def zc3 (p1:Int) (p2:Zab) (p3:Int) (p4:List Int) (p5:Nat) (p6:List Bool) (p7:Nat) (p8:List zw) (p9:Nat):Option ((List Int)×(List Bool)×(List zw)):=
  (Option.bind (ze p2.Zaj p1) fun e1=>(Option.bind (bif (e1.kind == 1) then some false else (Option.bind (zk p7 p1) fun k1=>(Option.bind (p6[k1]?) fun e2=>some e2))) fun v1=>(bif v1 then some (p4,p6,p8) else (Option.bind (Option.bind (xd p2 p3 p4 p5 p6 p7 p8 p9) fun r1=>(Option.bind (forR (σ:=(List zw)) (ρ:=(List zw)) (p9:Int) (fun i1 s1=>(Option.bind (Option.bind (zk p9 (i1:Int)) fun k2=>(Option.bind (s1[k2]?) fun e3=>(Option.bind (jq e3) fun r2=>(bif r2 then (Option.bind (Option.bind (ze p2.Zaf (i1:Int)) fun e4=>(bif (p1 == e4.pause) then (Option.bind (zk p9 (i1:Int)) fun k3=>(Option.bind (s1[k3]?) fun e5=>some (s1.set k3 ({e5 with ZaB:=true}:zw)))) else (Option.bind (ze p2.Zaf (i1:Int)) fun e6=>(bif (p1 == e6.ZaC) then (Option.bind (zk p9 (i1:Int)) fun k4=>(Option.bind (s1[k4]?) fun e7=>some (s1.set k4 ({e7 with ZaB:=false}:zw)))) else some s1)))) fun (v2:(List zw))=>some ((!true),v2)) else some (false,s1))))) fun (v3:Bool×(List zw))=>(bif v3.1 then some (.inr v3.2) else some (.inl v3.2)))) p8) (Sum.elim (fun (s1:(List zw))=>some s1) (fun (y1:(List zw))=>some y1)))) fun (v4:(List zw))=>(Option.bind (eqN p5 p4.length) fun g1=>(Option.bind (eqN p7 p6.length) fun g2=>(Option.bind (eqN p9 v4.length) fun g3=>(Option.bind (kl p2 ({day:=p3,Zag:=p4,used:=p6,Zal:=v4}:Zac) p1) fun r3=>(Option.bind (Option.bind (xd p2 p3 p4 p5 p6 p7 v4 p9) fun r4=>(Option.bind (forR (σ:=(List zw)) (ρ:=(List zw)) (p9:Int) (fun i2 s2=>(Option.bind (Option.bind (zk p9 (i2:Int)) fun k5=>(Option.bind (s2[k5]?) fun e8=>(Option.bind (jq e8) fun r5=>(bif r5 then (Option.bind (Option.bind (ze p2.Zaf (i2:Int)) fun e9=>(Option.bind (bif (e9.act == p1) then (bif (e9.kind == 4) then some true else (Option.bind (zk p9 (i2:Int)) fun k6=>(Option.bind (s2[k6]?) fun e10=>some (e10.Zav == r3)))) else some false) fun v5=>(bif v5 then (Option.bind (bif (e9.kind == (0:Int)) then none else (bif (e9.kind == (1:Int)) then (Option.bind (WG (i2:Int) p2 p3 p4 p5 p6 p7 s2 p9) fun r9=>some r9) else (bif (e9.kind == (2:Int)) then (Option.bind (WF (i2:Int) p2 p3 p4 p5 p6 p7 s2 p9) fun r8=>some r8) else (bif (e9.kind == (3:Int)) then (Option.bind (wg (i2:Int) p2 p3 p4 p5 p6 p7 s2 p9) fun r7=>some r7) else (bif (e9.kind == (4:Int)) then (Option.bind (wg (i2:Int) p2 p3 p4 p5 p6 p7 s2 p9) fun r6=>some r6) else none))))) fun v6=>some v6) else some s2))) fun (v7:(List zw))=>some ((!true),v7)) else some (false,s2))))) fun (v8:Bool×(List zw))=>(bif v8.1 then some (.inr v8.2) else some (.inl v8.2)))) v4) (Sum.elim (fun (s2:(List zw))=>some s2) (fun (y2:(List zw))=>some y2)))) fun (v9:(List zw))=>(Option.bind (bif (e1.kind == 1) then some (p4,p6,v9) else (Option.bind (WH p1 p2 p3 p4 p5 p6 p7 v9 p9) fun r10=>some (r10.1,r10.2.1,r10.2.2))) fun (v10:(List Int)×(List Bool)×(List zw))=>(Option.bind (W8 p2 p3 v10.1 p5 v10.2.1 p7 v10.2.2 p9) fun r11=>some (v10.1,v10.2.1,r11))))))))))))
theorem zjw (p1:Int) (p2:Zab) (p3:Int) (p4:List Int) (p5:Nat) (p6:List Bool) (p7:Nat) (p8:List zw) (p9:Nat):Le (zc3 p1 p2 p3 p4 p5 p6 p7 p8 p9) (Qi p1 p2 p3 p4 p5 p6 p7 p8 p9):=by
  unfold zc3 Qi
  repeat' (first | with_reducible exact Le.refl _ | with_reducible exact zaM _ _ _ _ _ _ _ _ | with_reducible refine Le.bind ?_ (fun _ => ?_) | with_reducible refine Le.cond _ ?_ ?_ | with_reducible refine Le.forR (fun _ _ => ?_) _ _ | with_reducible refine Le.iter (fun _ => ?_) _ _ | with_reducible refine Le.elim (fun _ => ?_) (fun _ => ?_) _)
noncomputable def yA (c:Zab) (s:Zac) (step:Int):Option (Zac×Int):=
  (Option.bind (Option.bind (xc c s) fun r1=>(bif r1 then (bif decide (step < (-1)) then some true else some (decide ((c.Zaj.length:Int)≤step))) else some true)) fun v1=>(bif v1 then some (({day:=0,Zag:=[],used:=[],Zal:=[]}:Zac),1) else (bif (s.day == c.Zat) then some (({day:=0,Zag:=[],used:=[],Zal:=[]}:Zac),13) else (Option.bind (mkN 8 (s.Zag.length:Int)) fun k1=>(Option.bind (mkN 1 (s.used.length:Int)) fun k2=>(Option.bind (mkN 40 (s.Zal.length:Int)) fun k3=>(Option.bind (xx (α:=Int) k1 (List.replicate k1 0) s.Zag) fun e1=>(Option.bind (xx (α:=Bool) k2 (List.replicate k2 false) s.used) fun e2=>(Option.bind (xx (α:=zw) k3 (List.replicate k3 ({Zan:=0,left:=0,got:=0,Zav:=0,ZaB:=false}:zw)) s.Zal) fun e3=>(Option.bind (bif (step == (-1)) then (Option.bind (zc2 c s.day e1 k1 e2 k2 e3 k3) fun r2=>some (e1,e2,r2,(IntKind.i64.wrap (s.day+1)))) else (Option.bind (zc3 step c s.day e1 k1 e2 k2 e3 k3) fun r3=>some (r3.1,r3.2.1,r3.2.2,s.day))) fun (v2:(List Int)×(List Bool)×(List zw)×Int)=>(Option.bind (eqN k1 v2.1.length) fun g1=>(Option.bind (eqN k2 v2.2.1.length) fun g2=>(Option.bind (eqN k3 v2.2.2.1.length) fun g3=>some (({day:=v2.2.2.2,Zag:=v2.1,used:=v2.2.1,Zal:=v2.2.2.1}:Zac),0))))))))))))))
theorem ZN (c:Zab) (s:Zac) (step:Int):Le (yA c s step) (d_Step c s step):=by
  unfold yA d_Step
  repeat' (first | with_reducible exact Le.refl _ | with_reducible exact zjv _ _ _ _ _ _ _ _ | with_reducible exact zjw _ _ _ _ _ _ _ _ _ | with_reducible refine Le.bind ?_ (fun _ => ?_) | with_reducible refine Le.cond _ ?_ ?_ | with_reducible refine Le.forR (fun _ _ => ?_) _ _ | with_reducible refine Le.iter (fun _ => ?_) _ _ | with_reducible refine Le.elim (fun _ => ?_) (fun _ => ?_) _)
noncomputable def zaN (c:Zab) (Zaa:Int) (p:Zah):Option (ZaF×Int):=
  (Option.bind (wW c Zaa p) fun r1=>(bif r1 then (Option.bind (wl p.state) fun r2=>(Option.bind (yz p) fun r3=>(Option.bind (α:=((List Zah)×(List (List Zar))) ⊕ Unit) (Option.bind (iterN (σ:=Int×(List Zah)×(List (List Zar))×(List (ByteArray×Int))) (ρ:=((List Zah)×(List (List Zar))) ⊕ Unit) (fun s1=>(bif decide (s1.1 < (s1.2.1.length:Int)) then (Option.bind (α:=((List Zah)×(List (ByteArray×Int))×(List Zar)) ⊕ Unit) (Option.bind (ze s1.2.1 s1.1) fun e1=>(Option.bind (WI c Zaa e1) fun r4=>(Option.bind (α:=((List Zah)×(List (ByteArray×Int))×(List Zar)) ⊕ (Unit ⊕ ((List Zah)×(List (ByteArray×Int))×(List Zar)))) (bif e1.own then (Option.bind (wl e1.state) fun r5=>(Option.bind (yz ({state:=r5,own:=false}:Zah)) fun r6=>(Option.bind (α:=(Int×(List Zah)×(List (ByteArray×Int))) ⊕ Unit) (bif ((zp r6 s1.2.2.2).isSome) then some (.inl (((zp r6 s1.2.2.2).getD 0),s1.2.1,s1.2.2.2)) else (bif ((s1.2.1.length:Int) == 1500) then some (.inr ()) else (Option.bind (zO (α:=Zah) 88 s1.2.1 [({state:=r5,own:=false}:Zah)]) fun e2=>some (.inl ((s1.2.1.length:Int),e2,(zP r6 (s1.2.1.length:Int) s1.2.2.2)))))) (Sum.elim (fun (v1:Int×(List Zah)×(List (ByteArray×Int)))=>(Option.bind (zO (α:=Zar) 16 [] [({step:=(-2),to:=v1.1}:Zar)]) fun e3=>(bif decide (c.Zat≤e1.state.day) then some (.inr (.inr (v1.2.1,v1.2.2,e3))) else some (.inl (v1.2.1,v1.2.2,e3))))) (fun (y1:Unit)=>some (.inr (.inl ()))))))) else (bif decide (c.Zat≤e1.state.day) then some (.inr (.inr (s1.2.1,s1.2.2.2,[]))) else some (.inl (s1.2.1,s1.2.2.2,[])))) (Sum.elim (fun (v2:(List Zah)×(List (ByteArray×Int))×(List Zar))=>(Option.bind (α:=((List Zah)×(List (ByteArray×Int))×(List Zar)) ⊕ Unit) (bif e1.own then some (.inl (v2.1,v2.2.1,v2.2.2)) else (Option.bind (yA c e1.state (-1)) fun r7=>(Option.bind (yz ({state:=r7.1,own:=true}:Zah)) fun r8=>(Option.bind (α:=(Int×(List Zah)×(List (ByteArray×Int))) ⊕ Unit) (bif ((zp r8 v2.2.1).isSome) then some (.inl (((zp r8 v2.2.1).getD 0),v2.1,v2.2.1)) else (bif ((v2.1.length:Int) == 1500) then some (.inr ()) else (Option.bind (zO (α:=Zah) 88 v2.1 [({state:=r7.1,own:=true}:Zah)]) fun e4=>some (.inl ((v2.1.length:Int),e4,(zP r8 (v2.1.length:Int) v2.2.1)))))) (Sum.elim (fun (v3:Int×(List Zah)×(List (ByteArray×Int)))=>(Option.bind (zO (α:=Zar) 16 v2.2.2 [({step:=(-1),to:=v3.1}:Zar)]) fun e5=>some (.inl (v3.2.1,v3.2.2,e5)))) (fun (y4:Unit)=>some (.inr ()))))))) (Sum.elim (fun (v4:(List Zah)×(List (ByteArray×Int))×(List Zar))=>(Option.bind (forR (σ:=(List Zah)×(List (ByteArray×Int))×(List Zar)) (ρ:=(List Zah)×(List (ByteArray×Int))×(List Zar)) (c.Zaj.length:Int) (fun i2 s2=>(Option.bind (α:=((List Zah)×(List (ByteArray×Int))×(List Zar)) ⊕ Unit) (Option.bind (ze c.Zaj (i2:Int)) fun e6=>(Option.bind (bif (e6.Zap == (-1)) then some (-1) else (Option.bind (ze e1.state.Zag e6.Zap) fun e7=>some e7)) fun (v5:Int)=>(bif ((v5 == Zaa) == e1.own) then (Option.bind (yA c e1.state (i2:Int)) fun r9=>(Option.bind (ZA r9.1 e1.state) fun r10=>(bif r10 then some (.inl (s2.1,s2.2.1,s2.2.2)) else (Option.bind (yz ({state:=r9.1,own:=true}:Zah)) fun r11=>(Option.bind (α:=(Int×(List Zah)×(List (ByteArray×Int))) ⊕ Unit) (bif ((zp r11 s2.2.1).isSome) then some (.inl (((zp r11 s2.2.1).getD 0),s2.1,s2.2.1)) else (bif ((s2.1.length:Int) == 1500) then some (.inr ()) else (Option.bind (zO (α:=Zah) 88 s2.1 [({state:=r9.1,own:=true}:Zah)]) fun e8=>some (.inl ((s2.1.length:Int),e8,(zP r11 (s2.1.length:Int) s2.2.1)))))) (Sum.elim (fun (v6:Int×(List Zah)×(List (ByteArray×Int)))=>(Option.bind (zO (α:=Zar) 16 s2.2.2 [({step:=(i2:Int),to:=v6.1}:Zar)]) fun e9=>some (.inl (v6.2.1,v6.2.2,e9)))) (fun (y6:Unit)=>some (.inr ())))))))) else some (.inl (s2.1,s2.2.1,s2.2.2))))) (Sum.elim (fun (v7:(List Zah)×(List (ByteArray×Int))×(List Zar))=>some (.inl (v7.1,v7.2.1,v7.2.2))) (fun (y7:Unit)=>some (.inr (s2.1,s2.2.1,s2.2.2)))))) (v4.1,v4.2.1,v4.2.2)) (Sum.elim (fun (s2:(List Zah)×(List (ByteArray×Int))×(List Zar))=>some (.inl (s2.1,s2.2.1,s2.2.2))) (fun (y8:(List Zah)×(List (ByteArray×Int))×(List Zar))=>some (.inr ()))))) (fun (y5:Unit)=>some (.inr ()))))) (Sum.elim (fun (y2:Unit)=>some (.inr ())) (fun (y3:(List Zah)×(List (ByteArray×Int))×(List Zar))=>some (.inl (y3.1,y3.2.1,y3.2.2)))))))) (Sum.elim (fun (v8:(List Zah)×(List (ByteArray×Int))×(List Zar))=>(Option.bind (zO (α:=List Zar) 24 s1.2.2.1 [v8.2.2]) fun e10=>some (.inl ((IntKind.i64.wrap (s1.1+1)),v8.1,e10,v8.2.1)))) (fun (y9:Unit)=>some (.inr (.inr ()))))) else some (.inr (.inl (s1.2.1,s1.2.2.1))))) 40 (0,[({state:=r2,own:=p.own}:Zah)],[],(zP r3 0 []))) (Sum.elim (fun (y10:(List Zah)×(List (List Zar)))=>some (.inl (y10.1,y10.2))) (fun (y11:Unit)=>some (.inr ())))) (Sum.elim (fun (v9:(List Zah)×(List (List Zar)))=>some (({Zaa:=Zaa,Zau:=v9.1,moves:=v9.2}:ZaF),0)) (fun (y12:Unit)=>some (({Zaa:=0,Zau:=[],moves:=[]}:ZaF),3)))))) else some (({Zaa:=0,Zau:=[],moves:=[]}:ZaF),1)))
theorem zhP (c:Zab) (Zaa:Int) (p:Zah):Le (zaN c Zaa p) (x6 c Zaa p):=by
  unfold zaN x6
  repeat' (first | with_reducible exact Le.refl _ | with_reducible exact zbU _ | with_reducible exact ZN _ _ _ | with_reducible refine Le.bind ?_ (fun _ => ?_) | with_reducible refine Le.cond _ ?_ ?_ | with_reducible refine Le.forR (fun _ _ => ?_) _ _ | with_reducible refine Le.iter (fun _ => ?_) _ _ | with_reducible refine Le.elim (fun _ => ?_) (fun _ => ?_) _)
noncomputable def J3 (c:Zab) (Zaa:Int):Option (ZaF×Int):=
  (Option.bind (ZM c) fun r1=>(bif (r1.2 == 0) then (Option.bind (zaN c Zaa ({state:=r1.1,own:=true}:Zah)) fun r2=>some (r2.1,r2.2)) else some (({Zaa:=0,Zau:=[],moves:=[]}:ZaF),r1.2)))
theorem zaO (c:Zab) (Zaa:Int):Le (J3 c Zaa) (jg c Zaa):=by
  unfold J3 jg
  repeat' (first | with_reducible exact Le.refl _ | with_reducible exact XK _ | with_reducible exact zhP _ _ _ | with_reducible refine Le.bind ?_ (fun _ => ?_) | with_reducible refine Le.cond _ ?_ ?_ | with_reducible refine Le.forR (fun _ _ => ?_) _ _ | with_reducible refine Le.iter (fun _ => ?_) _ _ | with_reducible refine Le.elim (fun _ => ?_) (fun _ => ?_) _)
noncomputable def J4 (c:Zab) (a:ZaF):Option (List Int):=
  (Option.bind (xM c a) fun r1=>(bif r1 then (Option.bind (mkN 8 (a.Zau.length:Int)) fun k1=>(Option.bind (mkN 8 (a.Zau.length:Int)) fun k2=>(Option.bind (mkN 24 (a.Zau.length:Int)) fun k3=>(Option.bind (forR (σ:=(List Int)×(List Int)×(List (List Int))×(List Int)) (ρ:=Unit) (a.Zau.length:Int) (fun i1 s1=>(Option.bind (Option.bind (ze a.Zau (i1:Int)) fun e1=>(Option.bind (ze a.moves (i1:Int)) fun e2=>(Option.bind (zk k1 (i1:Int)) fun k4=>(Option.bind (s1.1[k4]?) fun e3=>(Option.bind (zk k2 (i1:Int)) fun k5=>(Option.bind (s1.2.1[k5]?) fun e4=>(Option.bind (ze a.moves (i1:Int)) fun e5=>(Option.bind (forR (σ:=(List (List Int))) (ρ:=Unit) (e5.length:Int) (fun i2 s2=>(Option.bind (ze e5 (i2:Int)) fun e6=>(Option.bind (wx s2 k3 e6.to (i1:Int)) fun v1=>some (.inl v1)))) s1.2.2.1) (Sum.elim (fun (s2:(List (List Int)))=>(Option.bind (Jb c e1.state a.Zaa) fun r2=>(bif r2 then (Option.bind (zk k1 (i1:Int)) fun k6=>(Option.bind ((s1.1.set k4 (-1))[k6]?) fun e7=>(Option.bind (yt (i1:Int) s1.2.2.2 0) fun r3=>some (((s1.1.set k4 (-1)).set k6 0),(s1.2.1.set k5 (e2.length:Int)),s2,r3)))) else some ((s1.1.set k4 (-1)),(s1.2.1.set k5 (e2.length:Int)),s2,s1.2.2.2)))) (fun _=>none)))))))))) fun (v2:(List Int)×(List Int)×(List (List Int))×(List Int))=>some (.inl (v2.1,v2.2.1,v2.2.2.1,v2.2.2.2)))) ((List.replicate k1 0),(List.replicate k2 0),(List.replicate k3 []),[])) (Sum.elim (fun (s1:(List Int)×(List Int)×(List (List Int))×(List Int))=>(Option.bind (forR (σ:=(List Int)×(List Int)) (ρ:=Unit) (a.Zau.length:Int) (fun i3 s3=>(Option.bind (Option.bind (ze a.Zau (i3:Int)) fun e8=>(Option.bind (bif e8.own then (Option.bind (zk k2 (i3:Int)) fun k7=>(Option.bind (s1.2.1[k7]?) fun e9=>(bif (e9 == 0) then (Option.bind (zk k1 (i3:Int)) fun k8=>(Option.bind (s3.1[k8]?) fun e10=>some (e10 == (-1)))) else some false))) else some false) fun v3=>(bif v3 then (Option.bind (yu (i3:Int) 1 s3.1 k1 s3.2 0) fun r4=>some (r4.2,r4.1)) else some (s3.1,s3.2)))) fun (v4:(List Int)×(List Int))=>some (.inl (v4.1,v4.2)))) (s1.1,s1.2.2.2)) (Sum.elim (fun (s3:(List Int)×(List Int))=>(Option.bind (Option.bind (x8 s3.2 0) fun r5=>(Option.bind (iterN (σ:=Int×Bool×(List Int)×(List Int)×(List Int)×Int) (ρ:=(List Int)) (fun s4=>(bif s4.2.1 then (Option.bind (zk k3 s4.1) fun k9=>(Option.bind (s1.2.2.1[k9]?) fun e11=>(Option.bind (forR (σ:=(List Int)×(List Int)×(List Int)) (ρ:=Unit) (e11.length:Int) (fun i5 s5=>(Option.bind (ze e11 (i5:Int)) fun e12=>(Option.bind (ZB e12 s4.1 s5.2.1 k2 s5.1 k1 a s5.2.2 s4.2.2.2.2.2) fun r6=>some (.inl (r6.2.1,r6.1,r6.2.2))))) (s4.2.2.1,s4.2.2.2.1,s4.2.2.2.2.1)) (Sum.elim (fun (s5:(List Int)×(List Int)×(List Int))=>(Option.bind (x8 s5.2.2 s4.2.2.2.2.2) fun r7=>some (.inl (r7.1,r7.2.1,s5.1,s5.2.1,s5.2.2,r7.2.2)))) (fun _=>none))))) else some (.inr s4.2.2.1))) 40 (r5.1,r5.2.1,s3.1,s1.2.1,s3.2,r5.2.2)) (fun (y1:(List Int))=>some y1))) fun (v5:(List Int))=>(Option.bind (eqN k1 v5.length) fun g1=>some v5))) (fun _=>none)))) (fun _=>none)))))) else some []))
theorem zaP (c:Zab) (a:ZaF):Le (J4 c a) (vv c a):=by
  unfold J4 vv
  repeat' (first | with_reducible exact Le.refl _ | with_reducible refine Le.bind ?_ (fun _ => ?_) | with_reducible refine Le.cond _ ?_ ?_ | with_reducible refine Le.forR (fun _ _ => ?_) _ _ | with_reducible refine Le.iter (fun _ => ?_) _ _ | with_reducible refine Le.elim (fun _ => ?_) (fun _ => ?_) _)
noncomputable def zaQ (c:Zab) (a:ZaF):Option (List Bool):=
  (Option.bind (J4 c a) fun r1=>(Option.bind (mkN 1 (r1.length:Int)) fun k1=>(Option.bind (forR (σ:=(List Bool)) (ρ:=Unit) (r1.length:Int) (fun i1 s1=>(Option.bind (ze r1 (i1:Int)) fun e1=>(Option.bind (zk k1 (i1:Int)) fun k2=>(Option.bind (s1[k2]?) fun e2=>some (.inl (s1.set k2 (e1 == (-1)))))))) (List.replicate k1 false)) (Sum.elim (fun (s1:(List Bool))=>(Option.bind (eqN k1 s1.length) fun g1=>some s1)) (fun _=>none)))))
theorem zhQ (c:Zab) (a:ZaF):Le (zaQ c a) (ZF c a):=by
  unfold zaQ ZF
  repeat' (first | with_reducible exact Le.refl _ | with_reducible exact zaP _ _ | with_reducible refine Le.bind ?_ (fun _ => ?_) | with_reducible refine Le.cond _ ?_ ?_ | with_reducible refine Le.forR (fun _ _ => ?_) _ _ | with_reducible refine Le.iter (fun _ => ?_) _ _ | with_reducible refine Le.elim (fun _ => ?_) (fun _ => ?_) _)
noncomputable def J5 (c:Zab):Option ((List Zac)×Int):=
  (Option.bind (ZM c) fun r1=>(bif (r1.2 == 0) then (Option.bind (yz ({state:=r1.1,own:=false}:Zah)) fun r2=>(Option.bind (α:=(List Zac) ⊕ Unit) (Option.bind (iterN (σ:=(List Zac)×Int×(List (ByteArray×Bool))) (ρ:=(List Zac) ⊕ Unit) (fun s1=>(bif decide (s1.2.1 < (s1.1.length:Int)) then (Option.bind (α:=((List Zac)×(List (ByteArray×Bool))) ⊕ Unit) (Option.bind (ze s1.1 s1.2.1) fun e1=>(bif (e1.day == c.Zat) then some (.inl (s1.1,s1.2.2)) else (Option.bind (iterN (σ:=(List Zac)×Int×(List (ByteArray×Bool))) (ρ:=((List Zac)×(List (ByteArray×Bool))) ⊕ Unit) (fun s2=>(bif decide (s2.2.1 < (c.Zaj.length:Int)) then (Option.bind (α:=((List Zac)×(List (ByteArray×Bool))) ⊕ Unit) (Option.bind (ze s2.1 s1.2.1) fun e2=>(Option.bind (yA c e2 s2.2.1) fun r3=>(Option.bind (yz ({state:=r3.1,own:=false}:Zah)) fun r4=>(bif ((zp r4 s2.2.2).getD false) then some (.inl (s2.1,s2.2.2)) else (bif ((s2.1.length:Int) == 1500) then some (.inr ()) else (Option.bind (zO (α:=Zac) 80 s2.1 [r3.1]) fun e3=>some (.inl (e3,(zP r4 true s2.2.2))))))))) (Sum.elim (fun (v1:(List Zac)×(List (ByteArray×Bool)))=>some (.inl (v1.1,(IntKind.i64.wrap (s2.2.1+1)),v1.2))) (fun (y1:Unit)=>some (.inr (.inr ()))))) else some (.inr (.inl (s2.1,s2.2.2))))) 40 (s1.1,(-1),s1.2.2)) (Sum.elim (fun (y2:(List Zac)×(List (ByteArray×Bool)))=>some (.inl (y2.1,y2.2))) (fun (y3:Unit)=>some (.inr ())))))) (Sum.elim (fun (v2:(List Zac)×(List (ByteArray×Bool)))=>some (.inl (v2.1,(IntKind.i64.wrap (s1.2.1+1)),v2.2))) (fun (y4:Unit)=>some (.inr (.inr ()))))) else some (.inr (.inl s1.1)))) 40 ([r1.1],0,(zP r2 true []))) (Sum.elim (fun (y5:(List Zac))=>some (.inl y5)) (fun (y6:Unit)=>some (.inr ())))) (Sum.elim (fun (v3:(List Zac))=>some (v3,0)) (fun (y7:Unit)=>some ([],3))))) else some ([],r1.2)))
theorem zaR (c:Zab):Le (J5 c) (jS c):=by
  unfold J5 jS
  repeat' (first | with_reducible exact Le.refl _ | with_reducible exact XK _ | with_reducible exact zbU _ | with_reducible exact ZN _ _ _ | with_reducible refine Le.bind ?_ (fun _ => ?_) | with_reducible refine Le.cond _ ?_ ?_ | with_reducible refine Le.forR (fun _ _ => ?_) _ _ | with_reducible refine Le.iter (fun _ => ?_) _ _ | with_reducible refine Le.elim (fun _ => ?_) (fun _ => ?_) _)
def Jw (p:Zac):List UInt8:=jZ p.day++p.Zag.flatMap jZ++p.used.flatMap zV++p.Zal.flatMap Kf
def Jx (p:Zac):Bool:=jY p.day&&(p.Zag.all jY&&p.Zal.all ZL)
theorem zeR {p:Zac} (h:Jx p=true):Jw p=qh p:=by
  simp only [Jx,Bool.and_eq_true,List.all_eq_true] at h
  unfold Jw qh
  rw [jD h.1,xR (f:=jZ) (g:=zB) (fun a ha=>jD (h.2.1 a ha)),xR (f:=Kf) (g:=qO) (fun a ha=>by
    have:=h.2.2 a ha
    simp only [ZL,Bool.and_eq_true] at this
    show jZ a.Zan++jZ a.left++jZ a.got++jZ a.Zav++zV a.ZaB=zB a.Zan++zB a.left++zB a.got++zB a.Zav++zV a.ZaB
    rw [jD this.1,jD this.2.1,jD this.2.2.1,jD this.2.2.2])]
def J6 (p:Zac):Option ByteArray:=bif Jx p&&decide ((Jw p).length≤1000000000) then some ⟨(Jw p).toArray⟩ else none
theorem zgo (p:Zac):Le (J6 p) (wA p):=fun r h=>by
  unfold J6 at h
  cases hq:(Jx p&&decide ((Jw p).length≤1000000000)) with
  | false=>rw [hq] at h;cases h
  | true=>
    rw [hq] at h
    simp only [Bool.and_eq_true,decide_eq_true_eq] at hq
    have e:=zeR hq.1
    unfold wA
    rw [if_pos,←e]
    · exact h
    · have h1:=hq.1
      simp only [Jx,Bool.and_eq_true,List.all_eq_true] at h1
      simp only [zak,Bool.and_eq_true,decide_eq_true_eq,List.all_eq_true]
      refine ⟨⟨⟨jk h1.1,fun x hx=>jk (h1.2.1 x hx)⟩,fun m hm => ?_⟩,by rw [←e];exact hq.2⟩
      have:=h1.2.2 m hm
      simp only [ZL,Bool.and_eq_true] at this
      exact ⟨⟨⟨jk this.1,jk this.2.1⟩,jk this.2.2.1⟩,jk this.2.2.2⟩
noncomputable def zaS (p1:List Int):Option ((List Int)):=
  (Option.bind (iterN (σ:=Int×Int×(List Int)) (ρ:=(List Int)) (fun s1=>(bif decide (s1.1 < s1.2.1) then (Option.bind (zk p1.length s1.2.1) fun k1=>(Option.bind (s1.2.2[k1]?) fun e1=>(Option.bind (zk p1.length s1.1) fun k2=>(Option.bind (s1.2.2[k2]?) fun e2=>(Option.bind ((s1.2.2.set k2 e1)[k1]?) fun e3=>some (.inl ((IntKind.i64.wrap (s1.1+1)),(IntKind.i64.wrap (s1.2.1 - 1)),((s1.2.2.set k2 e1).set k1 e2)))))))) else some (.inr s1.2.2))) 40 (0,(IntKind.i64.wrap ((p1.length:Int) - 1)),p1)) (fun (y1:(List Int))=>some y1))
theorem zhR (p1:List Int):Le (zaS p1) (km p1):=by
  unfold zaS km
  repeat' (first | with_reducible exact Le.refl _ | with_reducible refine Le.bind ?_ (fun _ => ?_) | with_reducible refine Le.cond _ ?_ ?_ | with_reducible refine Le.forR (fun _ _ => ?_) _ _ | with_reducible refine Le.iter (fun _ => ?_) _ _ | with_reducible refine Le.elim (fun _ => ?_) (fun _ => ?_) _)
noncomputable def zc4 (came:Option (List (Int×Zax))) (n:Int):Option (List Int):=
  Option.bind (iterN (σ:=List Int×Int) (ρ:=List Int) (Qj came) 60 ([],n)) fun l=>Option.bind (zaS l) fun r=>Option.bind (eqN l.length r.length) fun _=>some r
theorem zjx (came:Option (List (Int×Zax))) (n:Int):Le (zc4 came n) (Qk came n):=by
  unfold zc4 Qk
  exact Le.bind (Le.iter (fun _=>Le.refl _) _ _) fun _=>Le.bind (zhR _) fun _=>Le.refl _
noncomputable def zaT (a:ZaF) (ranks:List Int):Option (List Int):=
  (Option.bind (Option.bind (iterN (σ:=(List Int)×Int) (ρ:=(List Int)) (fun s1=>(Option.bind (ze ranks s1.2) fun e1=>(bif decide (0 < e1) then (Option.bind (ze a.Zau s1.2) fun e2=>(bif e2.own then (Option.bind (ze a.moves s1.2) fun e3=>(Option.bind (ze e3 0) fun e4=>some (.inl (s1.1,e4.to)))) else (Option.bind (ze a.moves s1.2) fun e5=>(Option.bind (ZC e5 ranks s1.2) fun r1=>(Option.bind (ze a.moves s1.2) fun e6=>(Option.bind (ze e6 r1) fun e7=>(Option.bind (zO (α:=Int) 8 s1.1 [e7.step]) fun e8=>some (.inl (e8,e7.to))))))))) else some (.inr s1.1)))) 40 ([],0)) (fun (y1:(List Int))=>some y1)) fun (v1:(List Int))=>some v1)
theorem zhS (a:ZaF) (ranks:List Int):Le (zaT a ranks) (ZD a ranks):=by
  unfold zaT ZD
  repeat' (first | with_reducible exact Le.refl _ | with_reducible refine Le.bind ?_ (fun _ => ?_) | with_reducible refine Le.cond _ ?_ ?_ | with_reducible refine Le.forR (fun _ _ => ?_) _ _ | with_reducible refine Le.iter (fun _ => ?_) _ _ | with_reducible refine Le.elim (fun _ => ?_) (fun _ => ?_) _)
noncomputable def VK (c:Zab) (states:List Zac):Option (Option (List (Int×Zax))):=
  (Option.bind (forR (σ:=(List (ByteArray×Int))) (ρ:=Unit) (states.length:Int) (fun i1 s1=>(Option.bind (ze states (i1:Int)) fun e1=>(Option.bind (J6 e1) fun r1=>some (.inl (zP r1 (i1:Int) s1))))) []) (Sum.elim (fun (s1:(List (ByteArray×Int)))=>(Option.bind (forR (σ:=(List (Int×Zax))) (ρ:=Unit) (states.length:Int) (fun i2 s2=>(Option.bind (Option.bind (ze states (i2:Int)) fun e2=>(bif (e2.day == c.Zat) then some s2 else (Option.bind (iterN (σ:=Int×(List (Int×Zax))) (ρ:=(List (Int×Zax))) (fun s3=>(bif decide (s3.1 < (c.Zaj.length:Int)) then (Option.bind (Option.bind (yA c e2 s3.1) fun r2=>(Option.bind (J6 r2.1) fun r3=>(Option.bind (bif ((zp ((zp r3 s1).getD 0) s3.2).isSome) then some false else some (!(((zp r3 s1).getD 0) == 0))) fun v1=>(bif v1 then some (zP ((zp r3 s1).getD 0) ({from_:=(i2:Int),step:=s3.1}:Zax) s3.2) else some s3.2)))) fun (v2:(List (Int×Zax)))=>some (.inl ((IntKind.i64.wrap (s3.1+1)),v2))) else some (.inr s3.2))) 40 ((-1),s2)) (fun (y1:(List (Int×Zax)))=>some y1)))) fun (v3:(List (Int×Zax)))=>some (.inl v3))) []) (Sum.elim (fun (s2:(List (Int×Zax)))=>some (some s2)) (fun _=>none)))) (fun _=>none)))
theorem zgp (c:Zab) (states:List Zac):Le (VK c states) (yP c states):=by
  unfold VK yP
  repeat' (first | with_reducible exact Le.refl _ | with_reducible exact zgo _ | with_reducible exact ZN _ _ _ | with_reducible refine Le.bind ?_ (fun _ => ?_) | with_reducible refine Le.cond _ ?_ ?_ | with_reducible refine Le.forR (fun _ _ => ?_) _ _ | with_reducible refine Le.iter (fun _ => ?_) _ _ | with_reducible refine Le.elim (fun _ => ?_) (fun _ => ?_) _)
noncomputable def Jy (c:Zab) (states:List Zac):Option (List Zai):=
  (Option.bind (forR (σ:=(List Zai)×(Option (List (Int×Zax)))) (ρ:=Unit) (c.Zaf.length:Int) (fun i1 s1=>(Option.bind (forR (σ:=(List Zai)×(Option (List (Int×Zax)))) (ρ:=Unit) (c.Zaf.length:Int) (fun i2 s2=>(Option.bind (Option.bind (xN c (i1:Int) (i2:Int)) fun r1=>(bif r1 then (Option.bind (forR (σ:=(List Zai)×(Option (List (Int×Zax)))) (ρ:=(List Zai)×(Option (List (Int×Zax)))) (states.length:Int) (fun i3 s3=>(Option.bind (ze states (i3:Int)) fun e1=>(Option.bind (wC c e1 (i1:Int) (i2:Int)) fun r2=>(bif r2 then (Option.bind (bif s3.2.isSome then some s3.2 else (Option.bind (VK c states) fun r3=>some r3)) fun (v1:(Option (List (Int×Zax))))=>(Option.bind (zc4 v1 (i3:Int)) fun r4=>(Option.bind (jb 4 (-1) (i1:Int) (i2:Int) r4) fun r5=>(Option.bind (zO (α:=Zai) 56 s3.1 [r5]) fun e2=>some (.inr (e2,v1)))))) else some (.inl (s3.1,s3.2)))))) (s2.1,s2.2)) (Sum.elim (fun (s3:(List Zai)×(Option (List (Int×Zax))))=>some (s3.1,s3.2)) (fun (y1:(List Zai)×(Option (List (Int×Zax))))=>some (y1.1,y1.2)))) else some (s2.1,s2.2))) fun (v2:(List Zai)×(Option (List (Int×Zax))))=>some (.inl (v2.1,v2.2)))) (s1.1,s1.2)) (Sum.elim (fun (s2:(List Zai)×(Option (List (Int×Zax))))=>some (.inl (s2.1,s2.2))) (fun _=>none)))) ([],none)) (Sum.elim (fun (s1:(List Zai)×(Option (List (Int×Zax))))=>some s1.1) (fun _=>none)))
theorem zc5 (c:Zab) (states:List Zac):Le (Jy c states) (wD c states):=by
  unfold Jy wD
  repeat' (first | with_reducible exact Le.refl _ | with_reducible exact zgp _ _ | with_reducible exact zjx _ _ | with_reducible refine Le.bind ?_ (fun _ => ?_) | with_reducible refine Le.cond _ ?_ ?_ | with_reducible refine Le.forR (fun _ _ => ?_) _ _ | with_reducible refine Le.iter (fun _ => ?_) _ _ | with_reducible refine Le.elim (fun _ => ?_) (fun _ => ?_) _)
noncomputable def zeS (c:Zab):Option ((List Zai)×Int):=
  (Option.bind (J5 c) fun r1=>(bif (r1.2 == 0) then (Option.bind (forR (σ:=(List Zai)) (ρ:=Int) c.Zao (fun i1 s1=>(Option.bind (α:=(List Zai) ⊕ Int) (Option.bind (J3 c (i1:Int)) fun r2=>(bif (r2.2 == 0) then (Option.bind (J4 c r2.1) fun r3=>(Option.bind (ze r3 0) fun e1=>(bif decide (0≤e1) then (Option.bind (zaT r2.1 r3) fun r4=>(Option.bind (jb 1 (i1:Int) (-1) (-1) r4) fun r5=>(Option.bind (zO (α:=Zai) 56 s1 [r5]) fun e2=>some (.inl e2)))) else some (.inl s1)))) else some (.inr r2.2))) (Sum.elim (fun (v1:(List Zai))=>some (.inl v1)) (fun (y1:Int)=>some (.inr y1))))) []) (Sum.elim (fun (s1:(List Zai))=>(Option.bind (forR (σ:=(List Zai)×(List Zai)) (ρ:=Unit) (c.Zaf.length:Int) (fun i2 s2=>(Option.bind (Jd (i2:Int) r1.1 s2.1 c s2.2) fun r6=>some (.inl (r6.1,r6.2)))) (s1,[])) (Sum.elim (fun (s2:(List Zai)×(List Zai))=>(Option.bind (zO (α:=Zai) 56 s2.1 s2.2) fun e3=>(Option.bind (Jy c r1.1) fun r7=>(Option.bind (zO (α:=Zai) 56 e3 r7) fun e4=>some (e4,0))))) (fun _=>none)))) (fun (y2:Int)=>some ([],y2)))) else some ([],r1.2)))
theorem VL (c:Zab):Le (zeS c) (jT c):=by
  unfold zeS jT
  repeat' (first | with_reducible exact Le.refl _ | with_reducible exact zaR _ | with_reducible exact zaO _ _ | with_reducible exact zaP _ _ | with_reducible exact zhS _ _ | with_reducible exact zc5 _ _ | with_reducible refine Le.bind ?_ (fun _ => ?_) | with_reducible refine Le.cond _ ?_ ?_ | with_reducible refine Le.forR (fun _ _ => ?_) _ _ | with_reducible refine Le.iter (fun _ => ?_) _ _ | with_reducible refine Le.elim (fun _ => ?_) (fun _ => ?_) _)
noncomputable def XL (c:Zab) (s:Zac) (f:Zai):Option (Bool):=
  (Option.bind (forR (σ:=Int×(List Int)×(List Bool)×(List zw)) (ρ:=Unit) (f.ZaA.length:Int) (fun i1 s1=>(Option.bind (ze f.ZaA (i1:Int)) fun e1=>(Option.bind (bif (e1 == (-1)) then some false else (Option.bind (ZE c ({day:=s1.1,Zag:=s1.2.1,used:=s1.2.2.1,Zal:=s1.2.2.2}:Zac) e1) fun r1=>some (r1 == f.Zaa))) fun v1=>(bif v1 then some (.inr ()) else (Option.bind (yA c ({day:=s1.1,Zag:=s1.2.1,used:=s1.2.2.1,Zal:=s1.2.2.2}:Zac) e1) fun r2=>(bif (r2.2 == 0) then (Option.bind (bif ((i1:Int) == (IntKind.i64.wrap ((f.ZaA.length:Int) - 1))) then (Option.bind (xe c ({day:=s1.1,Zag:=s1.2.1,used:=s1.2.2.1,Zal:=s1.2.2.2}:Zac) f.Zaa) fun r3=>some r3) else some false) fun v2=>(bif v2 then some (.inr ()) else some (.inl (r2.1.day,r2.1.Zag,r2.1.used,r2.1.Zal)))) else some (.inr ()))))))) (s.day,s.Zag,s.used,s.Zal)) (Sum.elim (fun (s1:Int×(List Int)×(List Bool)×(List zw))=>(Option.bind (xe c ({day:=s1.1,Zag:=s1.2.1,used:=s1.2.2.1,Zal:=s1.2.2.2}:Zac) f.Zaa) fun r4=>some r4)) (fun (y1:Unit)=>some false)))
theorem zeT (c:Zab) (s:Zac) (f:Zai):Le (XL c s f) (vA c s f):=by
  unfold XL vA
  repeat' (first | with_reducible exact Le.refl _ | with_reducible exact ZN _ _ _ | with_reducible refine Le.bind ?_ (fun _ => ?_) | with_reducible refine Le.cond _ ?_ ?_ | with_reducible refine Le.forR (fun _ _ => ?_) _ _ | with_reducible refine Le.iter (fun _ => ?_) _ _ | with_reducible refine Le.elim (fun _ => ?_) (fun _ => ?_) _)
noncomputable def XM (c:Zab) (Zaa:Int):Option (Bool):=
  (Option.bind (J3 c Zaa) fun r1=>(Option.bind (bif (r1.2 == 0) then (Option.bind (zaQ c r1.1) fun r2=>(Option.bind (ze r2 0) fun e1=>some (!e1))) else some false) fun v1=>some v1))
theorem zeU (c:Zab) (Zaa:Int):Le (XM c Zaa) (vC c Zaa):=by
  unfold XM vC
  repeat' (first | with_reducible exact Le.refl _ | with_reducible exact zaO _ _ | with_reducible exact zhQ _ _ | with_reducible refine Le.bind ?_ (fun _ => ?_) | with_reducible refine Le.cond _ ?_ ?_ | with_reducible refine Le.forR (fun _ _ => ?_) _ _ | with_reducible refine Le.iter (fun _ => ?_) _ _ | with_reducible refine Le.elim (fun _ => ?_) (fun _ => ?_) _)
noncomputable def VM (c:Zab) (f:Zai):Option (Bool):=
  (Option.bind (J5 c) fun r1=>(bif (r1.2 == 0) then (bif (f.kind == 2) then (Option.bind (yv r1.1 f.clause) fun r2=>some r2) else (Option.bind (Option.bind (yv r1.1 f.clause) fun r3=>(bif r3 then some false else (Option.bind (vw c r1.1 f.clause) fun r4=>some r4))) fun v1=>some v1)) else some false))
theorem zgq (c:Zab) (f:Zai):Le (VM c f) (xt c f):=by
  unfold VM xt
  repeat' (first | with_reducible exact Le.refl _ | with_reducible exact zaR _ | with_reducible refine Le.bind ?_ (fun _ => ?_) | with_reducible refine Le.cond _ ?_ ?_ | with_reducible refine Le.forR (fun _ _ => ?_) _ _ | with_reducible refine Le.iter (fun _ => ?_) _ _ | with_reducible refine Le.elim (fun _ => ?_) (fun _ => ?_) _)
noncomputable def zbV (c:Zab) (f:Zai):Option (Bool):=
  (Option.bind (ZM c) fun r1=>(bif (r1.2 == 0) then (Option.bind (bif decide (0≤f.clause) then (bif decide (f.clause < (c.Zaf.length:Int)) then some (f.Zaa == (-1)) else some false) else some false) fun v1=>(bif (f.kind == 1) then (Option.bind (bif decide (0≤f.Zaa) then (bif decide (f.Zaa < c.Zao) then (bif (f.clause == (-1)) then (bif (f.other == (-1)) then (Option.bind (XL c r1.1 f) fun r2=>(bif r2 then (Option.bind (XM c f.Zaa) fun r3=>some r3) else some false)) else some false) else some false) else some false) else some false) fun v2=>some v2) else (Option.bind (bif (f.kind == 2) then some (f.kind == 2) else some (f.kind == 3)) fun (v3:Bool)=>(bif v3 then (Option.bind (bif v1 then (bif (f.other == (-1)) then (bif ((f.ZaA.length:Int) == 0) then (Option.bind (VM c f) fun r4=>some r4) else some false) else some false) else some false) fun v4=>some v4) else (bif (f.kind == 4) then (Option.bind (bif v1 then (bif decide (f.other < 0) then some true else (bif decide ((c.Zaf.length:Int)≤f.other) then some true else (Option.bind (xN c f.clause f.other) fun r5=>some (!r5)))) else some true) fun v5=>(bif v5 then some false else (Option.bind (forR (σ:=Int×(List Int)×(List Bool)×(List zw)) (ρ:=Unit) (f.ZaA.length:Int) (fun i1 s1=>(Option.bind (ze f.ZaA (i1:Int)) fun e1=>(Option.bind (yA c ({day:=s1.1,Zag:=s1.2.1,used:=s1.2.2.1,Zal:=s1.2.2.2}:Zac) e1) fun r6=>(bif (r6.2 == 0) then some (.inl (r6.1.day,r6.1.Zag,r6.1.used,r6.1.Zal)) else some (.inr ()))))) (r1.1.day,r1.1.Zag,r1.1.used,r1.1.Zal)) (Sum.elim (fun (s1:Int×(List Int)×(List Bool)×(List zw))=>(Option.bind (wC c ({day:=s1.1,Zag:=s1.2.1,used:=s1.2.2.1,Zal:=s1.2.2.2}:Zac) f.clause f.other) fun r7=>some r7)) (fun (y1:Unit)=>some false))))) else some false))))) else some false))
theorem vJ (c:Zab) (f:Zai):Le (zbV c f) (qu c f):=by
  unfold zbV qu
  repeat' (first | with_reducible exact Le.refl _ | with_reducible exact XK _ | with_reducible exact zeT _ _ _ | with_reducible exact zeU _ _ | with_reducible exact zgq _ _ | with_reducible exact ZN _ _ _ | with_reducible refine Le.bind ?_ (fun _ => ?_) | with_reducible refine Le.cond _ ?_ ?_ | with_reducible refine Le.forR (fun _ _ => ?_) _ _ | with_reducible refine Le.iter (fun _ => ?_) _ _ | with_reducible refine Le.elim (fun _ => ?_) (fun _ => ?_) _)
theorem zjy:jT ({Zao:=1,Zag:=[0],Zaw:=[],Zaj:=[({kind:=1,Zap:=0,give:=0,to:=(-1),unit:=(-1),lot:=({num:=0,den:=1}:Ratio)}:Zaq)],Zaf:=[({kind:=1,Zap:=0,act:=0,need:=1,start:=[],after:=2,Zay:=0,ZaE:=false,final:=true,pause:=(-1),ZaC:=(-1),value:=({num:=0,den:=1}:Ratio),unit:=(-1),to:=(-1),Zaz:=false}:Zam),({kind:=2,Zap:=0,act:=0,need:=1,start:=[],after:=3,Zay:=0,ZaE:=false,final:=true,pause:=(-1),ZaC:=(-1),value:=({num:=0,den:=1}:Ratio),unit:=(-1),to:=(-1),Zaz:=false}:Zam)],Zat:=5,off:=[]}:Zab)=some (([({kind:=1,Zaa:=0,clause:=(-1),other:=(-1),ZaA:=[(-1),(-1)]}:Zai),({kind:=4,Zaa:=(-1),clause:=0,other:=1,ZaA:=[]}:Zai)],0):List Zai×Int):=VL _ _ (by kernel_rfl)
theorem zjz:jT ({Zao:=1,Zag:=[0],Zaw:=[],Zaj:=[({kind:=1,Zap:=0,give:=0,to:=(-1),unit:=(-1),lot:=({num:=0,den:=1}:Ratio)}:Zaq)],Zaf:=[({kind:=1,Zap:=0,act:=0,need:=1,start:=[],after:=2,Zay:=0,ZaE:=false,final:=true,pause:=(-1),ZaC:=(-1),value:=({num:=0,den:=1}:Ratio),unit:=(-1),to:=(-1),Zaz:=false}:Zam),({kind:=2,Zap:=0,act:=0,need:=1,start:=[],after:=1,Zay:=0,ZaE:=false,final:=true,pause:=(-1),ZaC:=(-1),value:=({num:=0,den:=1}:Ratio),unit:=(-1),to:=(-1),Zaz:=false}:Zam)],Zat:=5,off:=[]}:Zab)=some (([],0):List Zai×Int):=VL _ _ (by kernel_rfl)
theorem zjA:jT ({Zao:=1,Zag:=[0],Zaw:=[],Zaj:=[({kind:=1,Zap:=0,give:=0,to:=(-1),unit:=(-1),lot:=({num:=0,den:=1}:Ratio)}:Zaq)],Zaf:=[({kind:=1,Zap:=0,act:=0,need:=1,start:=[],after:=2,Zay:=0,ZaE:=false,final:=true,pause:=(-1),ZaC:=(-1),value:=({num:=0,den:=1}:Ratio),unit:=(-1),to:=(-1),Zaz:=false}:Zam),({kind:=2,Zap:=0,act:=0,need:=1,start:=[({clause:=0,is:=4}:CondT)],after:=3,Zay:=0,ZaE:=false,final:=true,pause:=(-1),ZaC:=(-1),value:=({num:=0,den:=1}:Ratio),unit:=(-1),to:=(-1),Zaz:=false}:Zam)],Zat:=5,off:=[]}:Zab)=some (([({kind:=2,Zaa:=(-1),clause:=1,other:=(-1),ZaA:=[]}:Zai)],0):List Zai×Int):=VL _ _ (by kernel_rfl)
theorem zjB:qu ({Zao:=1,Zag:=[0],Zaw:=[],Zaj:=[({kind:=1,Zap:=0,give:=0,to:=(-1),unit:=(-1),lot:=({num:=0,den:=1}:Ratio)}:Zaq)],Zaf:=[({kind:=1,Zap:=0,act:=0,need:=1,start:=[],after:=2,Zay:=0,ZaE:=false,final:=true,pause:=(-1),ZaC:=(-1),value:=({num:=0,den:=1}:Ratio),unit:=(-1),to:=(-1),Zaz:=false}:Zam),({kind:=2,Zap:=0,act:=0,need:=1,start:=[],after:=3,Zay:=0,ZaE:=false,final:=true,pause:=(-1),ZaC:=(-1),value:=({num:=0,den:=1}:Ratio),unit:=(-1),to:=(-1),Zaz:=false}:Zam)],Zat:=5,off:=[]}:Zab) ({kind:=1,Zaa:=0,clause:=(-1),other:=(-1),ZaA:=[(-1),(-1)]}:Zai)=some true:=vJ _ _ _ (by kernel_rfl)
theorem zjC:qu ({Zao:=1,Zag:=[0],Zaw:=[],Zaj:=[({kind:=1,Zap:=0,give:=0,to:=(-1),unit:=(-1),lot:=({num:=0,den:=1}:Ratio)}:Zaq)],Zaf:=[({kind:=1,Zap:=0,act:=0,need:=1,start:=[],after:=2,Zay:=0,ZaE:=false,final:=true,pause:=(-1),ZaC:=(-1),value:=({num:=0,den:=1}:Ratio),unit:=(-1),to:=(-1),Zaz:=false}:Zam),({kind:=2,Zap:=0,act:=0,need:=1,start:=[],after:=3,Zay:=0,ZaE:=false,final:=true,pause:=(-1),ZaC:=(-1),value:=({num:=0,den:=1}:Ratio),unit:=(-1),to:=(-1),Zaz:=false}:Zam)],Zat:=5,off:=[]}:Zab) ({kind:=4,Zaa:=(-1),clause:=0,other:=1,ZaA:=[]}:Zai)=some true:=vJ _ _ _ (by kernel_rfl)
theorem zjD:qu ({Zao:=1,Zag:=[0],Zaw:=[],Zaj:=[({kind:=1,Zap:=0,give:=0,to:=(-1),unit:=(-1),lot:=({num:=0,den:=1}:Ratio)}:Zaq)],Zaf:=[({kind:=1,Zap:=0,act:=0,need:=1,start:=[],after:=2,Zay:=0,ZaE:=false,final:=true,pause:=(-1),ZaC:=(-1),value:=({num:=0,den:=1}:Ratio),unit:=(-1),to:=(-1),Zaz:=false}:Zam),({kind:=2,Zap:=0,act:=0,need:=1,start:=[({clause:=0,is:=4}:CondT)],after:=3,Zay:=0,ZaE:=false,final:=true,pause:=(-1),ZaC:=(-1),value:=({num:=0,den:=1}:Ratio),unit:=(-1),to:=(-1),Zaz:=false}:Zam)],Zat:=5,off:=[]}:Zab) ({kind:=2,Zaa:=(-1),clause:=1,other:=(-1),ZaA:=[]}:Zai)=some true:=vJ _ _ _ (by kernel_rfl)
theorem zjE:qu ({Zao:=1,Zag:=[0],Zaw:=[],Zaj:=[({kind:=1,Zap:=0,give:=0,to:=(-1),unit:=(-1),lot:=({num:=0,den:=1}:Ratio)}:Zaq)],Zaf:=[({kind:=1,Zap:=0,act:=0,need:=1,start:=[],after:=2,Zay:=0,ZaE:=false,final:=true,pause:=(-1),ZaC:=(-1),value:=({num:=0,den:=1}:Ratio),unit:=(-1),to:=(-1),Zaz:=false}:Zam),({kind:=2,Zap:=0,act:=0,need:=1,start:=[],after:=1,Zay:=0,ZaE:=false,final:=true,pause:=(-1),ZaC:=(-1),value:=({num:=0,den:=1}:Ratio),unit:=(-1),to:=(-1),Zaz:=false}:Zam)],Zat:=5,off:=[]}:Zab) ({kind:=1,Zaa:=0,clause:=(-1),other:=(-1),ZaA:=[(-1),(-1)]}:Zai)=some false:=vJ _ _ _ (by kernel_rfl)
end Go.Proofs.YtlpmnmbebkdocaaGreatDoor
