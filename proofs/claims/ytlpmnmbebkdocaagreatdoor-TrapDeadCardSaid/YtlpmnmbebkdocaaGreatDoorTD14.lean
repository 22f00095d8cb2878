/-
  'TrapDead': for every input the call returns true, and each argument reads afterwards as it read before.
  The tables of the library that the rows list: from the row's condition to what the contracts ask; the witness.
  The law 'TrapDead'.
  What the laws of layer 21 ask of a list of findings.
  The fixed example of the laws of layer 21: 'head' returns true. Printed by mkheads.py.
  One of the calls of the fixed example of the laws of layer 21. Printed by mkheads.py.
-/
import Derived.Test.YtlpmnmbebkdocaaGreatDoorTD13
import Derived.Test.YtlpmnmbebkdocaaGreatDoorRows
import Derived.Test.YtlpmnmbebkdocaaGreatDoorTD11
import Derived.LaidLaws
import Derived.LaidSub
import Derived.Deep.DeepLaidRun
import Derived.Lib.LaidTab
import Derived.JoinedOf
import Derived.Test.YtlpmnmbebkdocaaGreatDoorTD06
import Derived.Test.YtlpmnmbebkdocaaGreatDoorTie
import Derived.Test.YtlpmnmbebkdocaaGreatDoorCards
import Derived.SevenTiedAt
namespace Go.Proofs.YtlpmnmbebkdocaaGreatDoor
set_option linter.unusedSimpArgs false
set_option linter.unusedVariables false
set_option maxRecDepth 100000
theorem zjy:qG ({Zao:=1,Zag:=[0],Zav:=[],Zaj:=[({kind:=1,Zap:=0,give:=0,to:=(-1),unit:=(-1),lot:=({num:=0,den:=1}:Ratio)}:Zar)],Zaf:=[({kind:=1,Zap:=0,act:=0,need:=1,start:=[],after:=2,Zay:=0,ZaE:=false,final:=true,pause:=(-1),ZaC:=(-1),value:=({num:=0,den:=1}:Ratio),unit:=(-1),to:=(-1),Zaz:=false}:Zan),({kind:=2,Zap:=0,act:=0,need:=1,start:=[],after:=3,Zay:=0,ZaE:=false,final:=true,pause:=(-1),ZaC:=(-1),value:=({num:=0,den:=1}:Ratio),unit:=(-1),to:=(-1),Zaz:=false}:Zan)],Zat:=5,off:=[]}:Zab) ({kind:=1,Zaa:=0,clause:=(-1),other:=(-1),ZaA:=[(-1),(-1)]}:Zai)=some true:=vG _ _ _ (by kernel_rfl)
theorem zjz:qG ({Zao:=1,Zag:=[0],Zav:=[],Zaj:=[({kind:=1,Zap:=0,give:=0,to:=(-1),unit:=(-1),lot:=({num:=0,den:=1}:Ratio)}:Zar)],Zaf:=[({kind:=1,Zap:=0,act:=0,need:=1,start:=[],after:=2,Zay:=0,ZaE:=false,final:=true,pause:=(-1),ZaC:=(-1),value:=({num:=0,den:=1}:Ratio),unit:=(-1),to:=(-1),Zaz:=false}:Zan),({kind:=2,Zap:=0,act:=0,need:=1,start:=[],after:=3,Zay:=0,ZaE:=false,final:=true,pause:=(-1),ZaC:=(-1),value:=({num:=0,den:=1}:Ratio),unit:=(-1),to:=(-1),Zaz:=false}:Zan)],Zat:=5,off:=[]}:Zab) ({kind:=4,Zaa:=(-1),clause:=0,other:=1,ZaA:=[]}:Zai)=some true:=vG _ _ _ (by kernel_rfl)
theorem zjA:qG ({Zao:=1,Zag:=[0],Zav:=[],Zaj:=[({kind:=1,Zap:=0,give:=0,to:=(-1),unit:=(-1),lot:=({num:=0,den:=1}:Ratio)}:Zar)],Zaf:=[({kind:=1,Zap:=0,act:=0,need:=1,start:=[],after:=2,Zay:=0,ZaE:=false,final:=true,pause:=(-1),ZaC:=(-1),value:=({num:=0,den:=1}:Ratio),unit:=(-1),to:=(-1),Zaz:=false}:Zan),({kind:=2,Zap:=0,act:=0,need:=1,start:=[({clause:=0,is:=4}:CondT)],after:=3,Zay:=0,ZaE:=false,final:=true,pause:=(-1),ZaC:=(-1),value:=({num:=0,den:=1}:Ratio),unit:=(-1),to:=(-1),Zaz:=false}:Zan)],Zat:=5,off:=[]}:Zab) ({kind:=2,Zaa:=(-1),clause:=1,other:=(-1),ZaA:=[]}:Zai)=some true:=vG _ _ _ (by kernel_rfl)
theorem zjB:qG ({Zao:=1,Zag:=[0],Zav:=[],Zaj:=[({kind:=1,Zap:=0,give:=0,to:=(-1),unit:=(-1),lot:=({num:=0,den:=1}:Ratio)}:Zar)],Zaf:=[({kind:=1,Zap:=0,act:=0,need:=1,start:=[],after:=2,Zay:=0,ZaE:=false,final:=true,pause:=(-1),ZaC:=(-1),value:=({num:=0,den:=1}:Ratio),unit:=(-1),to:=(-1),Zaz:=false}:Zan),({kind:=2,Zap:=0,act:=0,need:=1,start:=[],after:=1,Zay:=0,ZaE:=false,final:=true,pause:=(-1),ZaC:=(-1),value:=({num:=0,den:=1}:Ratio),unit:=(-1),to:=(-1),Zaz:=false}:Zan)],Zat:=5,off:=[]}:Zab) ({kind:=1,Zaa:=0,clause:=(-1),other:=(-1),ZaA:=[(-1),(-1)]}:Zai)=some false:=vG _ _ _ (by kernel_rfl)
theorem zjC:qG ({Zao:=1,Zag:=[0],Zav:=[],Zaj:=[({kind:=1,Zap:=0,give:=0,to:=(-1),unit:=(-1),lot:=({num:=0,den:=1}:Ratio)}:Zar)],Zaf:=[({kind:=1,Zap:=0,act:=0,need:=1,start:=[],after:=2,Zay:=0,ZaE:=false,final:=true,pause:=(-1),ZaC:=(-1),value:=({num:=0,den:=1}:Ratio),unit:=(-1),to:=(-1),Zaz:=false}:Zan),({kind:=2,Zap:=0,act:=0,need:=1,start:=[],after:=1,Zay:=0,ZaE:=false,final:=true,pause:=(-1),ZaC:=(-1),value:=({num:=0,den:=1}:Ratio),unit:=(-1),to:=(-1),Zaz:=false}:Zan)],Zat:=5,off:=[]}:Zab) ({kind:=4,Zaa:=(-1),clause:=0,other:=1,ZaA:=[]}:Zai)=some false:=vG _ _ _ (by kernel_rfl)
theorem zjD:qG ({Zao:=1,Zag:=[0],Zav:=[],Zaj:=[({kind:=1,Zap:=0,give:=0,to:=(-1),unit:=(-1),lot:=({num:=0,den:=1}:Ratio)}:Zar)],Zaf:=[({kind:=1,Zap:=0,act:=0,need:=1,start:=[],after:=2,Zay:=0,ZaE:=false,final:=true,pause:=(-1),ZaC:=(-1),value:=({num:=0,den:=1}:Ratio),unit:=(-1),to:=(-1),Zaz:=false}:Zan),({kind:=2,Zap:=0,act:=0,need:=1,start:=[],after:=3,Zay:=0,ZaE:=false,final:=true,pause:=(-1),ZaC:=(-1),value:=({num:=0,den:=1}:Ratio),unit:=(-1),to:=(-1),Zaz:=false}:Zan)],Zat:=5,off:=[]}:Zab) ({kind:=2,Zaa:=(-1),clause:=1,other:=(-1),ZaA:=[]}:Zai)=some false:=vG _ _ _ (by kernel_rfl)
noncomputable def e_head21:Option (Bool):=
  (Option.bind (xZ 3) fun r1=>(Option.bind (xZ 1) fun r2=>(Option.bind (xZ 3) fun r3=>(Option.bind (some (([({kind:=1,Zaa:=0,clause:=(-1),other:=(-1),ZaA:=[(-1),(-1)]}:Zai),({kind:=4,Zaa:=(-1),clause:=0,other:=1,ZaA:=[]}:Zai)],0):List Zai×Int)) fun r4=>(Option.bind (some (([],0):List Zai×Int)) fun r5=>(Option.bind (some (([({kind:=2,Zaa:=(-1),clause:=1,other:=(-1),ZaA:=[]}:Zai)],0):List Zai×Int)) fun r6=>(Option.bind (bif (r4.2 == 0) then (Option.bind (vA r4.1 ([({kind:=1,Zaa:=0,clause:=(-1),other:=(-1),ZaA:=[(-1),(-1)]}:Zai),({kind:=4,Zaa:=(-1),clause:=0,other:=1,ZaA:=[]}:Zai)])) fun r7=>(bif r7 then (bif (r5.2 == 0) then (bif ((r5.1.length:Int) == 0) then (bif (r6.2 == 0) then (Option.bind (vA r6.1 ([({kind:=2,Zaa:=(-1),clause:=1,other:=(-1),ZaA:=[]}:Zai)])) fun r8=>some r8) else some false) else some false) else some false) else some false)) else some false) fun v1=>(Option.bind (bif v1 then (Option.bind (some true) fun r9=>(bif r9 then (Option.bind (some true) fun r10=>(bif r10 then (Option.bind (some true) fun r11=>(bif r11 then (Option.bind (some false) fun r12=>(bif r12 then some false else (Option.bind (some false) fun r13=>(bif r13 then some false else (Option.bind (some false) fun r14=>some (!r14)))))) else some false)) else some false)) else some false)) else some false) fun v2=>some v2))))))))
theorem zgk:ko=some true:=by
  have e:ko=e_head21:=by
    unfold ko e_head21
    rw [zjv,zjw,zjx,zjy,zjz,zjA,zjB,zjC,zjD]
  exact e.trans (show e_head21=some true by kernel_rfl)
end Go.Proofs.YtlpmnmbebkdocaaGreatDoor
namespace Go.Proofs.YtlpmnmbebkdocaaGreatDoor
open Go.RowKit
set_option linter.unusedSimpArgs false
set_option linter.unusedVariables false
set_option maxRecDepth 100000
section
def wW (k p cl:Int) (f:Zai):Bool:=f.kind == k&&(f.Zaa == p&&f.clause == cl)
theorem zgJ (l:List Zai) (hl:l.length < 4611686018427387904) (k p cl:Int):Zx l k p cl=some (l.any (wW k p cl)):=by
  unfold Zx
  rw [qW (npA l (wW k p cl)) (fun _=>()) (by omega) (fun j hj=>by
    rw [zo (List.getElem?_eq_getElem hj)]
    simp only [ZaI,ZC hj,wW]
    cases (l[j].kind == k)<;>cases (l[j].Zaa == p)<;>cases (l[j].clause == cl)<;>rfl)]
  have hf:=kW l (wW k p cl)
  simp only [ZaI]
  cases hq:(List.range l.length).find? (fun j=>!(npA l (wW k p cl) j)) with
  | none=>rw [hq] at hf;rw [←hf];rfl
  | some j=>rw [hq] at hf;rw [←hf];simp
theorem zaP {α:Type} {l:List α} {p:α→Bool} {b:Bool} (h1:b=true→∃ x∈l,p x=true) (h2:∀ x∈l,p x=true→b=true):l.any p=b:=by
  cases b with
  | true=>exact List.any_eq_true.2 (h1 rfl)
  | false=>
    rw [Bool.eq_false_iff]
    intro h
    obtain ⟨x,hx,hp⟩:=List.any_eq_true.1 h
    cases h2 x hx hp
section
variable {c:Zab} {s0:Zac} {L:List Zac} {l:List Zai}
theorem Yx {n:Nat} {f:Zai}:f∈xT L n↔∃ i,i < n∧xx L i=true∧f=jz i:=by
  simp only [xT,List.mem_map,List.mem_filter,List.mem_range]
  constructor
  · rintro ⟨i,⟨h1,h2⟩,rfl⟩;exact ⟨i,h1,h2,rfl⟩
  · rintro ⟨i,h1,h2,rfl⟩;exact ⟨i,⟨h1,h2⟩,rfl⟩
theorem Yy {n:Nat} {f:Zai}:f∈xU c L n↔∃ i,i < n∧xx L i=false∧unB c L i=true∧f=jA i:=by
  simp only [xU,List.mem_map,List.mem_filter,List.mem_range,Bool.and_eq_true,Bool.not_eq_true']
  constructor
  · rintro ⟨i,⟨h1,h2,h3⟩,rfl⟩;exact ⟨i,h1,h2,h3,rfl⟩
  · rintro ⟨i,h1,h2,h3,rfl⟩;exact ⟨i,⟨h1,h2,h3⟩,rfl⟩
theorem FindOk.cases (h:FindOk c s0 L l) {f:Zai} (hf:f∈l) :
    (f.kind=1∧f.clause = -1∧f.other = -1∧∃ p:Nat,(p:Int) < c.Zao∧f.Zaa=(p:Int)∧xS c (p:Int) (atO s0)=false∧PlayT c (p:Int) s0 f.ZaA) ∨
    (∃ i,i < c.Zaf.length∧xx L i=true∧f=jz i)∨(∃ i,i < c.Zaf.length∧xx L i=false∧unB c L i=true∧f=jA i)∨(∃ a b,ClF c s0 L a b f):=by
  obtain ⟨F,C,rfl,hF,hC⟩:=h
  simp only [List.mem_append] at hf
  rcases hf with ((hf | hf) | hf) | hf
  · obtain ⟨h1,h2,h3,p,h4,h5⟩:=hF.el f hf
    exact .inl ⟨h1,h2,h3,p,by omega,h5⟩
  · exact .inr (.inl (Yx.1 hf))
  · exact .inr (.inr (.inl (Yy.1 hf)))
  · obtain ⟨a,b,_,h1⟩:=hC.el f hf
    exact .inr (.inr (.inr ⟨a,b,h1⟩))
theorem FindOk.forced (h:FindOk c s0 L l) {p:Nat} (hp:(p:Int) < c.Zao):l.any (wW 1 (p:Int) (-1))=!xS c (p:Int) (atO s0):=by
  refine zaP (fun hs => ?_) (fun f hf hh => ?_)
  · obtain ⟨F,C,rfl,hF,hC⟩:=h
    obtain ⟨f,h1,h2⟩:=hF.has p (by omega) (by simpa using hs)
    refine ⟨f,by simp [h1],?_⟩
    obtain ⟨g1,g2,g3,_⟩:=hF.el f h1
    simp [wW,g1,g2,h2]
  · simp only [wW,Bool.and_eq_true,beq_iff_eq] at hh
    rcases h.cases hf with ⟨_,_,_,q,_,h5,h6,_⟩ | ⟨i,_,_,rfl⟩ | ⟨i,_,_,_,rfl⟩ | ⟨a,b,h1⟩
    · rw [h5] at hh
      have:q=p:=by omega
      subst this
      rw [h6];rfl
    · exact absurd hh.1 (by first | decide | simp [jz,jA])
    · exact absurd hh.1 (by first | decide | simp [jz,jA])
    · rw [h1.kind] at hh;exact absurd hh.1 (by first | decide | simp [jz,jA])
theorem FindOk.dead (h:FindOk c s0 L l) {i:Nat} (hi:i < c.Zaf.length):l.any (wW 2 (-1) (i:Int))=xx L i:=by
  refine zaP (fun hs => ?_) (fun f hf hh => ?_)
  · obtain ⟨F,C,rfl,hF,hC⟩:=h
    have:jz i∈xT L c.Zaf.length:=Yx.2 ⟨i,hi,hs,rfl⟩
    exact ⟨jz i,by simp [this],by simp [wW,jz]⟩
  · simp only [wW,Bool.and_eq_true,beq_iff_eq] at hh
    rcases h.cases hf with ⟨h1,_⟩ | ⟨j,_,h2,rfl⟩ | ⟨j,_,_,_,rfl⟩ | ⟨a,b,h1⟩
    · rw [h1] at hh;exact absurd hh.1 (by first | decide | simp [jz,jA])
    · have:j=i:=by have:=hh.2.2;simp only [jz] at this;omega
      subst this;exact h2
    · exact absurd hh.1 (by first | decide | simp [jz,jA])
    · rw [h1.kind] at hh;exact absurd hh.1 (by first | decide | simp [jz,jA])
theorem FindOk.idle (h:FindOk c s0 L l) {i:Nat} (hi:i < c.Zaf.length):l.any (wW 3 (-1) (i:Int))=(!xx L i&&unB c L i):=by
  refine zaP (fun hs => ?_) (fun f hf hh => ?_)
  · obtain ⟨F,C,rfl,hF,hC⟩:=h
    simp only [Bool.and_eq_true,Bool.not_eq_true'] at hs
    have:jA i∈xU c L c.Zaf.length:=Yy.2 ⟨i,hi,hs.1,hs.2,rfl⟩
    exact ⟨jA i,by simp [this],by simp [wW,jA]⟩
  · simp only [wW,Bool.and_eq_true,beq_iff_eq] at hh
    rcases h.cases hf with ⟨h1,_⟩ | ⟨j,_,_,rfl⟩ | ⟨j,_,h2,h3,rfl⟩ | ⟨a,b,h1⟩
    · rw [h1] at hh;exact absurd hh.1 (by first | decide | simp [jz,jA])
    · exact absurd hh.1 (by first | decide | simp [jz,jA])
    · have:j=i:=by have:=hh.2.2;simp only [jA] at this;omega
      subst this;rw [h2,h3];rfl
    · rw [h1.kind] at hh;exact absurd hh.1 (by first | decide | simp [jz,jA])
theorem FindOk.len (hc:c.Ok) (hv:VS c s0) (h:FindOk c s0 L l):l.length < 1000000:=by
  have sm:=qm (hc.off.lt (by omega:0 < 8)) hv.cv
  have s1:=sm.Zao
  have s3:=sm.Zaf
  obtain ⟨F,C,rfl,hF,hC⟩:=h
  have l1:=Jl L c.Zaf.length
  have l2:=Jm c L c.Zaf.length
  have h1:=hF.len
  have h2:=hC.len
  have hbig:c.Zaf.length*c.Zaf.length≤400*400:=Nat.mul_le_mul (by omega) (by omega)
  simp only [List.length_append]
  omega
end
end
theorem zgl {c:Zab} (hc:c.Ok) {q:Zac} (hv:VS c q) (x:Int):∃ r,d_Step c q x=some r∧((r.2=0∧r.1=qr c q x ∧ -1≤x∧x < (c.Zaj.length:Int)∧q.day < c.Zat)∨r.2≠0):=by
  by_cases h1 : -1≤x
  · by_cases h2:x < (c.Zaj.length:Int)
    · have hd:=hv.day
      by_cases h3:q.day < c.Zat
      · exact ⟨_,(wD hc hv h1 h2 h3).1,.inl ⟨rfl,rfl,h1,h2,h3⟩⟩
      · exact ⟨_,zfX hc (WR hv) h1 h2 (by omega),.inr (by simp)⟩
    · exact ⟨_,zaw hc (.inr (.inr (by omega))),.inr (by simp)⟩
  · exact ⟨_,zaw hc (.inr (.inl (by omega))),.inr (by simp)⟩
theorem zaQ {α:Type} (p:α→Bool) {l:List α} {k:Nat} (hk:k < l.length):(l.take (k+1)).any p=((l.take k).any p||p l[k]):=by
  rw [List.take_succ_eq_append_getElem hk,List.any_append];simp
theorem zc2 (c:Zab) (tra:List Int) (hc:Zab.Ok c) (htr:LOk 8 (fun x:Int=>InK .i64 x) tra):Qf c tra=some true:=by
  refine Ret.eq ?_
  unfold Qf
  refine Ret.bindE zgk ?_
  refine Ret.bind (P:=fun b:Bool=>b=true∨(b=false∧tra.length≤40)) ?_ ?_
  · refine Ret.bindE (zjh hc) ?_
    refine Ret.ite (fun _=>Ret.some ?_) (fun _=>Ret.some (.inl rfl))
    by_cases h:40 < (tra.length:Int)
    · exact .inl (decide_eq_true h)
    · exact .inr ⟨decide_eq_false h,by omega⟩
  rintro b (rfl | ⟨rfl,htl⟩)
  · exact Ret.ite (fun _=>Ret.some rfl) (fun h=>by cases h)
  refine Ret.ite (fun h=>by cases h) (fun _ => ?_)
  refine Ret.bind (zge hc) ?_
  rintro ⟨l,e⟩ hF
  rcases hF with ⟨he,hl⟩ | ⟨he,s0,L,hst,hvs,hr,h,hB,hF⟩
  · simp only at he
    rw [show (((l,e):List Zai×Int).2 == 0)=false from beq_eq_false_iff_ne.2 he]
    exact Ret.some rfl
  simp only at he hF
  subst he
  refine Ret.ite (fun _ => ?_) (fun h=>by cases h)
  refine Ret.bindE hst ?_
  have hlen:=h.inv.len
  have sm:=qm (hc.off.lt (by omega:0 < 8)) hvs.cv
  have s3:=sm.Zaf
  refine Ret.bind (P:=fun v:Int×List Int×List Bool×List zw=>∃ q,q∈L∧v=Jf q) ?_ ?_
  · refine Ret.bind (P:=fun v:Int×List Int×List Bool×List zw=>∃ q,q∈L∧v=Jf q) ?_ (fun v hv=>Ret.some hv)
    refine Ret.iter (fun s:Int×Int×List Int×List Bool×List zw=>∃ (i:Nat) (q:Zac),q∈L∧s=((i:Int),Jf q)) (fun s=>((tra.length:Int) - s.1).toNat) ⟨0,s0,h.first,rfl⟩ ?_
    rintro _ ⟨i,q,hq,rfl⟩
    have hvq:=h.inv.vs q hq
    refine Ret.bindE (v:=decide ((i:Int) < tra.length)) (by show (bif decide ((i:Int) < tra.length) then some true else some false)=_;cases decide ((i:Int) < tra.length)<;>rfl) ?_
    refine Ret.ite (fun hlt => ?_) (fun _=>Ret.some ⟨q,hq,rfl⟩)
    have hlt:=of_decide_eq_true hlt
    refine Ret.bindE (v:=tra[i]) (zo (List.getElem?_eq_getElem (by omega))) ?_
    obtain ⟨r,hr,hcase⟩:=zgl hc hvq tra[i]
    refine Ret.bindE (v:=r) hr ?_
    rcases hcase with ⟨h0,h1,h2,h3,h4⟩ | h0
    · rw [show (r.2 == 0)=true from beq_iff_eq.2 h0,cond_true]
      refine Ret.some ⟨⟨i+1,r.1,?_,?_⟩,?_⟩
      · rw [h1];exact h.done q hq h4 _ h2 h3
      · show (IntKind.i64.wrap ((i:Int)+1),Jf r.1)=_
        rw [zY (by omega) (by omega)];rfl
      · show ((tra.length:Int) - IntKind.i64.wrap ((i:Int)+1)).toNat < ((tra.length:Int) - (i:Int)).toNat
        rw [zY (by omega) (by omega)];omega
    · rw [show (r.2 == 0)=false from beq_eq_false_iff_ne.2 h0,ZaH]
      exact Ret.some ⟨q,hq,rfl⟩
  rintro _ ⟨q,hq,rfl⟩
  have hvq:=h.inv.vs q hq
  refine Ret.bindE hr ?_
  refine Ret.bindE (v:=false) (by
    show (bif true then (bif true then some (!((q.Zal.length:Int) == (c.Zaf.length:Int))) else some true) else some true)=_
    rw [hvq.lm];simp) ?_
  refine Ret.ite (fun h=>by cases h) (fun _ => ?_)
  refine Ret.bind (P:=fun o:Unit ⊕ Unit=>o=.inl ()) (Ret.forL (fun _ _=>True) (by omega) trivial (fun i _ hi _ => ?_) (fun _ _=>rfl)) (by rintro _ rfl;exact Ret.some rfl)
  obtain ⟨m,m1,m2,m3⟩:=yS hvq hi
  have hk:=List.getElem?_eq_getElem hi
  refine Ret.bind (P:=fun o:(Bool×Bool) ⊕ Unit=>o=.inl (L.any (fun s=>!(jm i s == 0)),L.any (fun s=>jm i s == 3))) (Ret.forL (fun k s=>s=((L.take k).any (fun s=>!(jm i s == 0)),(L.take k).any (fun s=>jm i s == 3))) (by show L.length < 4611686018427387904;omega) (by simp) (fun k s hkl hs => ?_) (fun s hs=>by rw [hs,List.take_length])) ?_
  · subst hs
    obtain ⟨mk,k1,k2,k3⟩:=yS (h.inv.vs _ (List.getElem_mem hkl)) hi
    have hix:=zo (List.getElem?_eq_getElem hkl)
    refine Ret.bindE (v:=((L.take k).any (fun s=>!(jm i s == 0)) || !(mk.Zam == 0))) ?_ ?_
    · simp only [hix,ZaI,k2]
      cases (L.take k).any (fun s=>!(jm i s == 0))<;>simp
    refine Ret.bindE (v:=((L.take k).any (fun s=>jm i s == 3)||(mk.Zam == 3))) ?_ ?_
    · simp only [hix,ZaI,k2]
      cases (L.take k).any (fun s=>jm i s == 3)<;>simp
    refine Ret.some ?_
    show _=_
    rw [zaQ _ hkl,zaQ _ hkl,k3]
  rintro _ rfl
  simp only [Sum.elim_inl]
  have hll:=hF.len hc hvs
  refine Ret.bindE (zgJ l (by omega) _ _ _) ?_
  refine Ret.bindE (zgJ l (by omega) _ _ _) ?_
  rw [hF.dead hi,hF.idle hi]
  have hD:xx L i=!(L.any fun s=>!(jm i s == 0)):=rfl
  have hN:Y8 L i=L.any fun s=>jm i s == 3:=rfl
  have hU:unB c L i=(c.Zaf[i].kind == 3&&(!c.Zaf[i].Zaz && !Y8 L i)):=by unfold unB;rw [hk]
  have hq0:(L.any fun s=>!(jm i s == 0))=false→(m.Zam == 0)=true:=fun hs=>by
    have:=(List.any_eq_false.1 hs) q hq
    rw [m3] at this
    simpa using this
  have hq3:(L.any fun s=>jm i s == 3)=false→(m.Zam == 3)=false:=fun hs=>by
    have:=(List.any_eq_false.1 hs) q hq
    rw [m3] at this
    simpa using this
  have hmq:ze (Jf q).2.2.2 (i:Int)=some m:=m2
  rw [hD,hU,hN]
  generalize (L.any fun s=>!(jm i s == 0))=S at hq0
  generalize (L.any fun s=>jm i s == 3)=N at hq3
  refine Ret.bindE (v:=false) ?_ ?_
  · simp only [hmq,ZaI]
    cases S with
    | true=>
      cases N with
      | true=>simp
      | false=>rw [hq3 rfl];cases (c.Zaf[i].kind == 3)<;>cases c.Zaf[i].Zaz<;>rfl
    | false=>rw [hq0 rfl];rfl
  refine Ret.ite (fun h=>by cases h) (fun _ => ?_)
  refine Ret.bindE (v:=false) ?_ ?_
  · rw [zo hk]
    simp only [ZaI]
    cases S<;>cases N<;>cases (c.Zaf[i].kind == 3)<;>cases c.Zaf[i].Zaz<;>rfl
  exact Ret.ite (fun h=>by cases h) (fun _=>Ret.some trivial)
end Go.Proofs.YtlpmnmbebkdocaaGreatDoor
namespace Go.Proofs.YtlpmnmbebkdocaaGreatDoor
open Go.ChangeShapes Go.WideShapes Go.RowKit
set_option maxRecDepth 100000
abbrev JZ : List (String × DataW Unit) := [("math/bits.deBruijn32tab", Rows.laid_math_bits_deBruijn32tab), ("math/bits.deBruijn64tab", Rows.laid_math_bits_deBruijn64tab), ("internal/strconv.uint64pow10", Rows.laid_internal_strconv_uint64pow10)]
theorem zgm:(JZ.filter fun x=>x.1 == xN)=[(xN,Lib.tabData .u64 Lib.pow10Tab)]:=by kernel_rfl
theorem zaR {W:World} (h:laidMet Tryz.prog JZ W):C0.tabs.p W∧C0.tabs.n≤W.heap.size:=by
  have h1:=h.filter (fun x=>x.1 == xN)
  rw [zgm] at h1
  have h2:C0.tabs.p W:=Lib.tabIs_of_head (g:=0) (t:=((Tryz.prog.globals[0]?).map (·.type)).getD 0) (e:=193) (n:=20)
    (by kernel_rfl) (by kernel_rfl) (by kernel_rfl) (by kernel_rfl) (by kernel_rfl) (by kernel_rfl) h1
  exact ⟨h2,zcs h2⟩
def zjE:DataW Unit→Array Value
  | .agg ds=>(ds.map fun d=>match d with | .lit (.int k n)=>Value.int k n | _=>Value.bool false).toArray
  | _ => #[]
def zaS (w:World) (g:Nat) (d:DataW Unit):World:={w with heap:=w.heap.modify g fun | .cells _ t f=>.cells (zjE d) t f | o=>o}
noncomputable def Yz (os:Os):World:=
  zaS (zaS (zaS (World.holding Tryz.prog os ⟨#[],#[],[]⟩) 1 Rows.laid_math_bits_deBruijn32tab) 2 Rows.laid_math_bits_deBruijn64tab) 0 Rows.laid_internal_strconv_uint64pow10
theorem YM (os:Os) (args:Array Value):laidMet Tryz.prog JZ ((Yz os).forCall (fun _ _=>0) ⟨#[],args,[]⟩).memory:=
  laidMet_of_run3 8 (by kernel_rfl) (by kernel_rfl) (by kernel_rfl)
end Go.Proofs.YtlpmnmbebkdocaaGreatDoor
namespace Go.Proofs.YtlpmnmbebkdocaaGreatDoor.LTrapDead
open Go.ChangeShapes Go.WideShapes Go.ChangeAt Go.RowKit
set_option linter.unusedVariables false
set_option maxRecDepth 100000
theorem all (ivs:List IV) (h:JH [(true,Zab.tys),(false,[.slice 8 [.int .i64]])] ivs):APure C0 310 ivs (.bool true):=by
  match ivs,h with
  | [x0,x1],⟨a0,a1,_⟩=>
    obtain ⟨row0,rfl,r0⟩:=a0
    obtain ⟨c,rfl,ok_c⟩:=Zab.opn r0
    obtain ⟨c1,_,e1,k1,n1⟩:=zf a1
    cases e1
    obtain ⟨ZaA,rfl,ok_trace⟩:=qc vl k1
    exact zcI c ZaA true (zc2 c ZaA ok_c ok_trace)
theorem own:ownKnob Tryz.prog.godebug=none:=by kernel_rfl
theorem laid:laidOutB Tryz.prog=true:=by kernel_rfl
theorem args:mapO (zaa Tryz.prog) Tryz.f7.params.toList=some [(true,Zab.tys),(false,[.slice 8 [.int .i64]])]:=by kernel_rfl
theorem zjF (os:Os) (started:os.Started) (H:Type) (enc:TypeId×Value→H) :
    ReturnsInHanded {} Tryz.checked os 7 .any (fun w args=>(Rows.trapDeadSpec.pre enc Tryz.prog Tryz.f7 [] false w args∧laidMet Tryz.prog JZ w)∧sizedMet enc Tryz.prog Tryz.f7 (OpenSpec.ofChange Rows.trapDeadSpec) false w args) (Rows.trapDeadSpec.post enc Tryz.prog Tryz.f7 false true false false):=by
  refine returnsInHanded_of_change_and (C:=Tryz.checked) (X:=fun w _=>laidMet Tryz.prog JZ w) (fun _ _ _ hh h=>h.of_heap hh) own started (by kernel_rfl) Tryz.func7
    (ChangeSpec.witness_at (enc:=enc) (C:=Tryz.checked) (os:=os) (X:=fun w _=>laidMet Tryz.prog JZ w) false (Yz os) #[.agg #[.int .i64 0,.slice none 0 0,.slice none 0 0,.slice none 0 0,.slice none 0 0,.int .i64 0,.slice none 0 0],.slice none 0 0] 8 rfl (by kernel_rfl) (by kernel_rfl) (by kernel_rfl) (by kernel_rfl) (by kernel_rfl) (YM os _)) ?_
  intro W base args ds gs before hval hW _ hwt hL _
  exact zab (Cx:=C0) (tb:=4) 310 rfl LTrapDead.args rfl (by kernel_rfl) rfl
    (fun ds h=>by match ds,h with | [_,_],_=>rfl) LTrapDead.laid (by kernel_rfl) LTrapDead.all W (zaR hL) base args ds gs before hval hW hwt
theorem zmb:Rows.TrapDeadSaid:=
  OpenClaim.holds_of_wide 7 Tryz.f7 rfl rfl rfl rfl rfl rfl rfl ⟨rfl,rfl,rfl,rfl,rfl⟩ rfl rfl rfl rfl rfl (by kernel_rfl) Tryz.func7 (by kernel_rfl)
    (of_decide_eq_true (by kernel_rfl)) (by unfold Func.isWrapper;first | (rw [if_pos (by decide +kernel)];kernel_rfl) | (rw [if_neg (by decide +kernel)];exact ⟨rfl,rfl⟩))
    (fun os started H enc _=>zjF os started H enc)
theorem holds:Rows.TrapDeadCardSaid:=
  Claim7.holds_tied_plain_at .later [] [.data, .data, .data] true (true, "7bc6b4a7d0776bec5163c6b97d3bd90ad221a013c50c4dd2d862c7360c2f6317") false
    zmb (fun _ h=>by cases h) (by kernel_rfl) (fun _ h=>by cases h) trapDead_row_tie rfl ⟨rfl,rfl⟩ (by kernel_rfl) rfl
    (fun f fn hf hfn=>by
      obtain rfl : f = 7 := Option.some.inj ((show Tryz.prog.funcNamed "estoppel/estoppellaw21.TrapDead" = some 7 by kernel_rfl).symm.trans hf) |>.symm
      obtain rfl:fn=Tryz.f7:=(Option.some.inj (Tryz.func7.symm.trans hfn)).symm
      refine ⟨by kernel_rfl,fun j t ht => ?_⟩
      have hall:(Tryz.f7.params.toList.all fun t=>!(Tryz.prog.wantsStandIn t))=true:=by kernel_rfl
      have:=List.all_eq_true.1 hall t (by rw [Array.mem_toList_iff];exact Array.mem_of_getElem? ht)
      have h2:Tryz.prog.wantsStandIn t=false:=by simpa using this
      exact h2)
    (by kernel_rfl)
end Go.Proofs.YtlpmnmbebkdocaaGreatDoor.LTrapDead
namespace Go.Proofs.YtlpmnmbebkdocaaGreatDoor
theorem trapDead_holds:Rows.TrapDeadCardSaid:=LTrapDead.holds
end Go.Proofs.YtlpmnmbebkdocaaGreatDoor
