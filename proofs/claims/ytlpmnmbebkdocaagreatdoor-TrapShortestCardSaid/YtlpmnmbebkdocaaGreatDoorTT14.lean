/-
  'TrapShortest': for every input the call returns true, and each argument reads afterwards as it read before.
  The tables of the library that the rows list: from the row's condition to what the contracts ask; the witness.
  The law 'TrapShortest'.
  StrategyNoBreach: who can perform and follows the advice never comes into breach.
  The law 'TrapDead'.
  What the laws of layer 21 ask of a list of findings.
  The fixed example of the laws of layer 21: 'head' returns true. Printed by mkheads.py.
  One of the calls of the fixed example of the laws of layer 21. Printed by mkheads.py.
-/
import Derived.Test.YtlpmnmbebkdocaaGreatDoorTT13
import Derived.Test.YtlpmnmbebkdocaaGreatDoorRows
import Derived.Test.YtlpmnmbebkdocaaGreatDoorTT11
import Derived.LaidLaws
import Derived.LaidSub
import Derived.Deep.DeepLaidRun
import Derived.Lib.LaidTab
import Derived.JoinedOf
import Derived.Test.YtlpmnmbebkdocaaGreatDoorTT06
import Derived.Test.YtlpmnmbebkdocaaGreatDoorTie
import Derived.Test.YtlpmnmbebkdocaaGreatDoorCards
import Derived.SevenTiedAt
namespace Go.Proofs.YtlpmnmbebkdocaaGreatDoor
set_option linter.unusedSimpArgs false
set_option linter.unusedVariables false
set_option maxRecDepth 100000
theorem zjJ:jP ({Zao:=1,Zag:=[0],Zav:=[],Zai:=[({kind:=1,Zap:=0,give:=0,to:=(-1),unit:=(-1),lot:=({num:=0,den:=1}:Ratio)}:Zaq)],Zae:=[({kind:=1,Zap:=0,act:=0,need:=1,start:=[],after:=2,Zay:=0,ZaD:=false,final:=true,pause:=(-1),ZaC:=(-1),value:=({num:=0,den:=1}:Ratio),unit:=(-1),to:=(-1),ZaA:=false}:Zam),({kind:=2,Zap:=0,act:=0,need:=1,start:=[],after:=3,Zay:=0,ZaD:=false,final:=true,pause:=(-1),ZaC:=(-1),value:=({num:=0,den:=1}:Ratio),unit:=(-1),to:=(-1),ZaA:=false}:Zam)],Zat:=5,off:=[]}:Zab)=some (([({kind:=1,Zaa:=0,clause:=(-1),other:=(-1),Zaz:=[(-1),(-1)]}:Zaj),({kind:=4,Zaa:=(-1),clause:=0,other:=1,Zaz:=[]}:Zaj)],0):List Zaj×Int):=VQ _ _ (by kernel_rfl)
theorem zjK:jP ({Zao:=1,Zag:=[0],Zav:=[],Zai:=[({kind:=1,Zap:=0,give:=0,to:=(-1),unit:=(-1),lot:=({num:=0,den:=1}:Ratio)}:Zaq)],Zae:=[({kind:=1,Zap:=0,act:=0,need:=1,start:=[],after:=2,Zay:=0,ZaD:=false,final:=true,pause:=(-1),ZaC:=(-1),value:=({num:=0,den:=1}:Ratio),unit:=(-1),to:=(-1),ZaA:=false}:Zam),({kind:=2,Zap:=0,act:=0,need:=1,start:=[],after:=1,Zay:=0,ZaD:=false,final:=true,pause:=(-1),ZaC:=(-1),value:=({num:=0,den:=1}:Ratio),unit:=(-1),to:=(-1),ZaA:=false}:Zam)],Zat:=5,off:=[]}:Zab)=some (([],0):List Zaj×Int):=VQ _ _ (by kernel_rfl)
theorem zjL:jP ({Zao:=1,Zag:=[0],Zav:=[],Zai:=[({kind:=1,Zap:=0,give:=0,to:=(-1),unit:=(-1),lot:=({num:=0,den:=1}:Ratio)}:Zaq)],Zae:=[({kind:=1,Zap:=0,act:=0,need:=1,start:=[],after:=2,Zay:=0,ZaD:=false,final:=true,pause:=(-1),ZaC:=(-1),value:=({num:=0,den:=1}:Ratio),unit:=(-1),to:=(-1),ZaA:=false}:Zam),({kind:=2,Zap:=0,act:=0,need:=1,start:=[({clause:=0,is:=4}:CondT)],after:=3,Zay:=0,ZaD:=false,final:=true,pause:=(-1),ZaC:=(-1),value:=({num:=0,den:=1}:Ratio),unit:=(-1),to:=(-1),ZaA:=false}:Zam)],Zat:=5,off:=[]}:Zab)=some (([({kind:=2,Zaa:=(-1),clause:=1,other:=(-1),Zaz:=[]}:Zaj)],0):List Zaj×Int):=VQ _ _ (by kernel_rfl)
theorem zjM:qG ({Zao:=1,Zag:=[0],Zav:=[],Zai:=[({kind:=1,Zap:=0,give:=0,to:=(-1),unit:=(-1),lot:=({num:=0,den:=1}:Ratio)}:Zaq)],Zae:=[({kind:=1,Zap:=0,act:=0,need:=1,start:=[],after:=2,Zay:=0,ZaD:=false,final:=true,pause:=(-1),ZaC:=(-1),value:=({num:=0,den:=1}:Ratio),unit:=(-1),to:=(-1),ZaA:=false}:Zam),({kind:=2,Zap:=0,act:=0,need:=1,start:=[],after:=3,Zay:=0,ZaD:=false,final:=true,pause:=(-1),ZaC:=(-1),value:=({num:=0,den:=1}:Ratio),unit:=(-1),to:=(-1),ZaA:=false}:Zam)],Zat:=5,off:=[]}:Zab) ({kind:=1,Zaa:=0,clause:=(-1),other:=(-1),Zaz:=[(-1),(-1)]}:Zaj)=some true:=vF _ _ _ (by kernel_rfl)
theorem zjN:qG ({Zao:=1,Zag:=[0],Zav:=[],Zai:=[({kind:=1,Zap:=0,give:=0,to:=(-1),unit:=(-1),lot:=({num:=0,den:=1}:Ratio)}:Zaq)],Zae:=[({kind:=1,Zap:=0,act:=0,need:=1,start:=[],after:=2,Zay:=0,ZaD:=false,final:=true,pause:=(-1),ZaC:=(-1),value:=({num:=0,den:=1}:Ratio),unit:=(-1),to:=(-1),ZaA:=false}:Zam),({kind:=2,Zap:=0,act:=0,need:=1,start:=[],after:=3,Zay:=0,ZaD:=false,final:=true,pause:=(-1),ZaC:=(-1),value:=({num:=0,den:=1}:Ratio),unit:=(-1),to:=(-1),ZaA:=false}:Zam)],Zat:=5,off:=[]}:Zab) ({kind:=4,Zaa:=(-1),clause:=0,other:=1,Zaz:=[]}:Zaj)=some true:=vF _ _ _ (by kernel_rfl)
theorem zjO:qG ({Zao:=1,Zag:=[0],Zav:=[],Zai:=[({kind:=1,Zap:=0,give:=0,to:=(-1),unit:=(-1),lot:=({num:=0,den:=1}:Ratio)}:Zaq)],Zae:=[({kind:=1,Zap:=0,act:=0,need:=1,start:=[],after:=2,Zay:=0,ZaD:=false,final:=true,pause:=(-1),ZaC:=(-1),value:=({num:=0,den:=1}:Ratio),unit:=(-1),to:=(-1),ZaA:=false}:Zam),({kind:=2,Zap:=0,act:=0,need:=1,start:=[({clause:=0,is:=4}:CondT)],after:=3,Zay:=0,ZaD:=false,final:=true,pause:=(-1),ZaC:=(-1),value:=({num:=0,den:=1}:Ratio),unit:=(-1),to:=(-1),ZaA:=false}:Zam)],Zat:=5,off:=[]}:Zab) ({kind:=2,Zaa:=(-1),clause:=1,other:=(-1),Zaz:=[]}:Zaj)=some true:=vF _ _ _ (by kernel_rfl)
theorem zjP:qG ({Zao:=1,Zag:=[0],Zav:=[],Zai:=[({kind:=1,Zap:=0,give:=0,to:=(-1),unit:=(-1),lot:=({num:=0,den:=1}:Ratio)}:Zaq)],Zae:=[({kind:=1,Zap:=0,act:=0,need:=1,start:=[],after:=2,Zay:=0,ZaD:=false,final:=true,pause:=(-1),ZaC:=(-1),value:=({num:=0,den:=1}:Ratio),unit:=(-1),to:=(-1),ZaA:=false}:Zam),({kind:=2,Zap:=0,act:=0,need:=1,start:=[],after:=1,Zay:=0,ZaD:=false,final:=true,pause:=(-1),ZaC:=(-1),value:=({num:=0,den:=1}:Ratio),unit:=(-1),to:=(-1),ZaA:=false}:Zam)],Zat:=5,off:=[]}:Zab) ({kind:=1,Zaa:=0,clause:=(-1),other:=(-1),Zaz:=[(-1),(-1)]}:Zaj)=some false:=vF _ _ _ (by kernel_rfl)
theorem zjQ:qG ({Zao:=1,Zag:=[0],Zav:=[],Zai:=[({kind:=1,Zap:=0,give:=0,to:=(-1),unit:=(-1),lot:=({num:=0,den:=1}:Ratio)}:Zaq)],Zae:=[({kind:=1,Zap:=0,act:=0,need:=1,start:=[],after:=2,Zay:=0,ZaD:=false,final:=true,pause:=(-1),ZaC:=(-1),value:=({num:=0,den:=1}:Ratio),unit:=(-1),to:=(-1),ZaA:=false}:Zam),({kind:=2,Zap:=0,act:=0,need:=1,start:=[],after:=1,Zay:=0,ZaD:=false,final:=true,pause:=(-1),ZaC:=(-1),value:=({num:=0,den:=1}:Ratio),unit:=(-1),to:=(-1),ZaA:=false}:Zam)],Zat:=5,off:=[]}:Zab) ({kind:=4,Zaa:=(-1),clause:=0,other:=1,Zaz:=[]}:Zaj)=some false:=vF _ _ _ (by kernel_rfl)
theorem zjR:qG ({Zao:=1,Zag:=[0],Zav:=[],Zai:=[({kind:=1,Zap:=0,give:=0,to:=(-1),unit:=(-1),lot:=({num:=0,den:=1}:Ratio)}:Zaq)],Zae:=[({kind:=1,Zap:=0,act:=0,need:=1,start:=[],after:=2,Zay:=0,ZaD:=false,final:=true,pause:=(-1),ZaC:=(-1),value:=({num:=0,den:=1}:Ratio),unit:=(-1),to:=(-1),ZaA:=false}:Zam),({kind:=2,Zap:=0,act:=0,need:=1,start:=[],after:=3,Zay:=0,ZaD:=false,final:=true,pause:=(-1),ZaC:=(-1),value:=({num:=0,den:=1}:Ratio),unit:=(-1),to:=(-1),ZaA:=false}:Zam)],Zat:=5,off:=[]}:Zab) ({kind:=2,Zaa:=(-1),clause:=1,other:=(-1),Zaz:=[]}:Zaj)=some false:=vF _ _ _ (by kernel_rfl)
noncomputable def e_head21:Option (Bool):=
  (Option.bind (xV 3) fun r1=>(Option.bind (xV 1) fun r2=>(Option.bind (xV 3) fun r3=>(Option.bind (some (([({kind:=1,Zaa:=0,clause:=(-1),other:=(-1),Zaz:=[(-1),(-1)]}:Zaj),({kind:=4,Zaa:=(-1),clause:=0,other:=1,Zaz:=[]}:Zaj)],0):List Zaj×Int)) fun r4=>(Option.bind (some (([],0):List Zaj×Int)) fun r5=>(Option.bind (some (([({kind:=2,Zaa:=(-1),clause:=1,other:=(-1),Zaz:=[]}:Zaj)],0):List Zaj×Int)) fun r6=>(Option.bind (bif (r4.2 == 0) then (Option.bind (vw r4.1 ([({kind:=1,Zaa:=0,clause:=(-1),other:=(-1),Zaz:=[(-1),(-1)]}:Zaj),({kind:=4,Zaa:=(-1),clause:=0,other:=1,Zaz:=[]}:Zaj)])) fun r7=>(bif r7 then (bif (r5.2 == 0) then (bif ((r5.1.length:Int) == 0) then (bif (r6.2 == 0) then (Option.bind (vw r6.1 ([({kind:=2,Zaa:=(-1),clause:=1,other:=(-1),Zaz:=[]}:Zaj)])) fun r8=>some r8) else some false) else some false) else some false) else some false)) else some false) fun v1=>(Option.bind (bif v1 then (Option.bind (some true) fun r9=>(bif r9 then (Option.bind (some true) fun r10=>(bif r10 then (Option.bind (some true) fun r11=>(bif r11 then (Option.bind (some false) fun r12=>(bif r12 then some false else (Option.bind (some false) fun r13=>(bif r13 then some false else (Option.bind (some false) fun r14=>some (!r14)))))) else some false)) else some false)) else some false)) else some false) fun v2=>some v2))))))))
theorem zgy:kq=some true:=by
  have e:kq=e_head21:=by
    unfold kq e_head21
    rw [zjJ,zjK,zjL,zjM,zjN,zjO,zjP,zjQ,zjR]
  exact e.trans (show e_head21=some true by kernel_rfl)
end Go.Proofs.YtlpmnmbebkdocaaGreatDoor
namespace Go.Proofs.YtlpmnmbebkdocaaGreatDoor
open Go.RowKit
set_option linter.unusedSimpArgs false
set_option linter.unusedVariables false
set_option maxRecDepth 100000
section
def VT (k p cl:Int) (f:Zaj):Bool:=f.kind == k&&(f.Zaa == p&&f.clause == cl)
def XK (i j:Int) (f:Zaj):Bool:=f.kind == 4&&(f.clause == i&&f.other == j)
theorem zh0 (l:List Zaj) (hl:l.length < 4611686018427387904) (i j:Int):yu l i j=some (l.any (XK i j)):=by
  unfold yu
  rw [qM (npA l (XK i j)) (fun _=>()) (by omega) (fun q hj=>by
    rw [zl (List.getElem?_eq_getElem hj)]
    simp only [ZaI,kD hj,XK]
    cases (l[q].kind == 4)<;>cases (l[q].clause == i)<;>cases (l[q].other == j)<;>rfl)]
  have hf:=yx l (XK i j)
  simp only [ZaI]
  cases hq:(List.range l.length).find? (fun q=>!(npA l (XK i j) q)) with
  | none=>rw [hq] at hf;rw [←hf];rfl
  | some q=>rw [hq] at hf;rw [←hf];simp
theorem zeX {α:Type} {l:List α} {p:α→Bool} {b:Bool} (h1:b=true→∃ x∈l,p x=true) (h2:∀ x∈l,p x=true→b=true):l.any p=b:=by
  cases b with
  | true=>exact List.any_eq_true.2 (h1 rfl)
  | false=>
    rw [Bool.eq_false_iff]
    intro h
    obtain ⟨x,hx,hp⟩:=List.any_eq_true.1 h
    cases h2 x hx hp
section
variable {c:Zab} {s0:Zac} {L:List Zac} {l:List Zaj}
theorem YI {n:Nat} {f:Zaj}:f∈xQ L n↔∃ i,i < n∧wb L i=true∧f=jN i:=by
  simp only [xQ,List.mem_map,List.mem_filter,List.mem_range]
  constructor
  · rintro ⟨i,⟨h1,h2⟩,rfl⟩;exact ⟨i,h1,h2,rfl⟩
  · rintro ⟨i,h1,h2,rfl⟩;exact ⟨i,⟨h1,h2⟩,rfl⟩
theorem zeY {n:Nat} {f:Zaj}:f∈wd c L n↔∃ i,i < n∧wb L i=false∧unB c L i=true∧f=wc i:=by
  simp only [wd,List.mem_map,List.mem_filter,List.mem_range,Bool.and_eq_true,Bool.not_eq_true']
  constructor
  · rintro ⟨i,⟨h1,h2,h3⟩,rfl⟩;exact ⟨i,h1,h2,h3,rfl⟩
  · rintro ⟨i,h1,h2,h3,rfl⟩;exact ⟨i,⟨h1,h2,h3⟩,rfl⟩
theorem FindOk.cases (h:FindOk c s0 L l) {f:Zaj} (hf:f∈l) :
    (f.kind=1∧f.clause = -1∧f.other = -1∧∃ p:Nat,(p:Int) < c.Zao∧f.Zaa=(p:Int)∧xP c (p:Int) (atO s0)=false∧PlayT c (p:Int) s0 f.Zaz) ∨
    (∃ i,i < c.Zae.length∧wb L i=true∧f=jN i)∨(∃ i,i < c.Zae.length∧wb L i=false∧unB c L i=true∧f=wc i)∨(∃ a b,ClF c s0 L a b f):=by
  obtain ⟨F,C,rfl,hF,hC⟩:=h
  simp only [List.mem_append] at hf
  rcases hf with ((hf | hf) | hf) | hf
  · obtain ⟨h1,h2,h3,p,h4,h5⟩:=hF.el f hf
    exact .inl ⟨h1,h2,h3,p,by omega,h5⟩
  · exact .inr (.inl (YI.1 hf))
  · exact .inr (.inr (.inl (zeY.1 hf)))
  · obtain ⟨a,b,_,h1⟩:=hC.el f hf
    exact .inr (.inr (.inr ⟨a,b,h1⟩))
theorem FindOk.forced (h:FindOk c s0 L l) {p:Nat} (hp:(p:Int) < c.Zao):l.any (VT 1 (p:Int) (-1))=!xP c (p:Int) (atO s0):=by
  refine zeX (fun hs => ?_) (fun f hf hh => ?_)
  · obtain ⟨F,C,rfl,hF,hC⟩:=h
    obtain ⟨f,h1,h2⟩:=hF.has p (by omega) (by simpa using hs)
    refine ⟨f,by simp [h1],?_⟩
    obtain ⟨g1,g2,g3,_⟩:=hF.el f h1
    simp [VT,g1,g2,h2]
  · simp only [VT,Bool.and_eq_true,beq_iff_eq] at hh
    rcases h.cases hf with ⟨_,_,_,q,_,h5,h6,_⟩ | ⟨i,_,_,rfl⟩ | ⟨i,_,_,_,rfl⟩ | ⟨a,b,h1⟩
    · rw [h5] at hh
      have:q=p:=by omega
      subst this
      rw [h6];rfl
    · exact absurd hh.1 (by first | decide | simp [jN,wc])
    · exact absurd hh.1 (by first | decide | simp [jN,wc])
    · rw [h1.kind] at hh;exact absurd hh.1 (by first | decide | simp [jN,wc])
theorem FindOk.dead (h:FindOk c s0 L l) {i:Nat} (hi:i < c.Zae.length):l.any (VT 2 (-1) (i:Int))=wb L i:=by
  refine zeX (fun hs => ?_) (fun f hf hh => ?_)
  · obtain ⟨F,C,rfl,hF,hC⟩:=h
    have:jN i∈xQ L c.Zae.length:=YI.2 ⟨i,hi,hs,rfl⟩
    exact ⟨jN i,by simp [this],by simp [VT,jN]⟩
  · simp only [VT,Bool.and_eq_true,beq_iff_eq] at hh
    rcases h.cases hf with ⟨h1,_⟩ | ⟨j,_,h2,rfl⟩ | ⟨j,_,_,_,rfl⟩ | ⟨a,b,h1⟩
    · rw [h1] at hh;exact absurd hh.1 (by first | decide | simp [jN,wc])
    · have:j=i:=by have:=hh.2.2;simp only [jN] at this;omega
      subst this;exact h2
    · exact absurd hh.1 (by first | decide | simp [jN,wc])
    · rw [h1.kind] at hh;exact absurd hh.1 (by first | decide | simp [jN,wc])
theorem FindOk.len (hc:c.Ok) (hv:VS c s0) (h:FindOk c s0 L l):l.length < 1000000:=by
  have sm:=qi (hc.off.lt (by omega:0 < 8)) hv.cv
  have s1:=sm.Zao
  have s3:=sm.Zae
  obtain ⟨F,C,rfl,hF,hC⟩:=h
  have l1:=Js L c.Zae.length
  have l2:=Jt c L c.Zae.length
  have h1:=hF.len
  have h2:=hC.len
  have hbig:c.Zae.length*c.Zae.length≤400*400:=Nat.mul_le_mul (by omega) (by omega)
  simp only [List.length_append]
  omega
end
end
theorem zgz {c:Zab} (hc:c.Ok) {q:Zac} (hv:VS c q) (x:Int):∃ r,d_Step c q x=some r∧((r.2=0∧r.1=qp c q x ∧ -1≤x∧x < (c.Zai.length:Int)∧q.day < c.Zat)∨r.2≠0):=by
  by_cases h1 : -1≤x
  · by_cases h2:x < (c.Zai.length:Int)
    · have hd:=hv.day
      by_cases h3:q.day < c.Zat
      · exact ⟨_,(wC hc hv h1 h2 h3).1,.inl ⟨rfl,rfl,h1,h2,h3⟩⟩
      · exact ⟨_,zga hc (WY hv) h1 h2 (by omega),.inr (by simp)⟩
    · exact ⟨_,zaF hc (.inr (.inr (by omega))),.inr (by simp)⟩
  · exact ⟨_,zaF hc (.inr (.inl (by omega))),.inr (by simp)⟩
section
section
variable {c:Zab} {Zaa:Int} {s0:Zac} {a:ZaF}
end
theorem zeZ {c:Zab} (hc:c.Ok):∃ r,qx c=some r:=by
  by_cases hv:(z7 c).1=0
  · obtain ⟨r,hr,_⟩:=Zd hc hv;exact ⟨r,hr⟩
  · exact ⟨_,Zc hc hv⟩
end
section
section
variable {c:Zab} {s0:Zac} {L:List Zac} {l:List Zaj}
theorem zgA (ha:c.Zai.length < 4611686018427387904) {i j:Nat} (hi:i < c.Zae.length) (hj:j < c.Zae.length):Qm c (i:Int) (j:Int)=some (kE c i j):=by
  unfold Qm
  rw [decide_eq_false (show ¬ (i:Int) < 0 by omega),decide_eq_false (show ¬ (j:Int) < 0 by omega),decide_eq_false (show ¬ (c.Zae.length:Int)≤(i:Int) by omega),decide_eq_false (show ¬ (c.Zae.length:Int)≤(j:Int) by omega)]
  simp only [ZaH,ZaI]
  rw [qM (npA c.Zai (fun a=>a.kind == 3)) (fun _=>()) (by omega) (fun j hj=>by
    rw [zl (List.getElem?_eq_getElem hj)]
    simp only [ZaI,kD hj]
    cases (c.Zai[j].kind == 3)<;>rfl)]
  have hf:=yx c.Zai (fun a=>a.kind == 3)
  have hN:zgo c=c.Zai.any (fun a=>a.kind == 3):=rfl
  rw [zl (List.getElem?_eq_getElem hi),zl (List.getElem?_eq_getElem hj)]
  simp only [ZaI,kE,zgp,List.getElem?_eq_getElem hi,List.getElem?_eq_getElem hj]
  cases hq:(List.range c.Zai.length).find? (fun j=>!(npA c.Zai (fun a=>a.kind == 3) j)) with
  | none=>
    rw [hq] at hf
    rw [hN,←hf]
    simp only [Sum.elim_inl]
    cases (c.Zae[i].kind == 1)<;>try rfl
    cases (c.Zae[j].kind == 2)<;>try rfl
    cases c.Zae[i].final<;>try rfl
    cases c.Zae[j].final<;>try rfl
    cases c.Zae[i].ZaA<;>try rfl
    cases c.Zae[j].ZaA<;>try rfl
    cases (c.Zae[i].act == c.Zae[j].act)<;>try rfl
    cases (c.Zae[i].pause == -1)<;>try rfl
    cases (c.Zae[j].pause == -1)<;>try rfl
    cases (c.Zae[i].ZaD == c.Zae[j].ZaD)<;>rfl
  | some k=>
    rw [hq] at hf
    rw [hN,←hf]
    simp
theorem Xi (hc:c.Ok) {s:Zac} (hv:VS c s) {i j:Nat} (hi:i < c.Zae.length) (hj:j < c.Zae.length):xF c s (i:Int) (j:Int)=some (kE c i j&&yC c s i j):=by
  have sm:=qi (hc.off.lt (by omega:0 < 8)) hv.cv
  have s2:=sm.Zai
  obtain ⟨d,d1,d2,_⟩:=yU hv hi
  obtain ⟨b,b1,b2,_⟩:=yU hv hj
  have hk:=List.getElem?_eq_getElem hi
  have hw:=zbU hc hv hk d1
  unfold xF
  rw [zgA (by omega) hi hj]
  simp only [ZaI]
  cases kE c i j with
  | false=>rfl
  | true=>
    simp only [cond_true,Bool.true_and,d2,b2,zl hk,ZaI,hw,yC,hk,d1,b1,clK,WS]
    have hbb:(d.Zau == b.Zau)=(b.Zau == d.Zau):=by
      by_cases e:d.Zau=b.Zau
      · rw [e]
      · rw [beq_eq_false_iff_ne.2 e,beq_eq_false_iff_ne.2 (Ne.symm e)]
    rw [hbb]
    cases (d.Zan == 1)<;>cases (d.Zan == 2)<;>cases (b.Zan == 1)<;>cases (b.Zau == d.Zau)<;>simp
theorem FindOk.clash (h:FindOk c s0 L l) {a b:Nat} (ha:a < c.Zae.length) (hb:b < c.Zae.length) (ho:kE c a b=true) (hq:∃ q∈L,yC c q a b=true):l.any (XK (a:Int) (b:Int))=true:=by
  obtain ⟨F,C,rfl,hF,hC⟩:=h
  obtain ⟨f,h1,h2,h3⟩:=hC.has a b (.inl ha) ha hb ho hq
  obtain ⟨_,_,_,h4⟩:=hC.el f h1
  exact List.any_eq_true.2 ⟨f,by simp [h1],by simp [XK,h2,h3,h4.kind]⟩
end
theorem VU (c:Zab) (tr:List Int) (hc:Zab.Ok c) (htr:LOk 8 (fun x:Int=>InK .i64 x) tr):vz c tr=some true:=by
  refine Ret.eq ?_
  unfold vz
  refine Ret.bindE zgy ?_
  refine Ret.bind (P:=fun b:Bool=>b=true∨(b=false∧tr.length≤40)) ?_ ?_
  · refine Ret.bindE (zjx hc) ?_
    refine Ret.ite (fun _=>Ret.some ?_) (fun _=>Ret.some (.inl rfl))
    by_cases h:40 < (tr.length:Int)
    · exact .inl (decide_eq_true h)
    · exact .inr ⟨decide_eq_false h,by omega⟩
  rintro b (rfl | ⟨rfl,htl⟩)
  · exact Ret.ite (fun _=>Ret.some rfl) (fun h=>by cases h)
  refine Ret.ite (fun h=>by cases h) (fun _ => ?_)
  refine Ret.bind (zgs hc) ?_
  rintro ⟨l,e⟩ hF
  obtain ⟨⟨q0,e0⟩,hst0⟩:=zeZ hc
  have hv0:e0=0→VS c q0:=fun he=>by
    by_cases hv:(z7 c).1=0
    · obtain ⟨r,h1,_,h3⟩:=Zd hc hv
      rw [hst0] at h1;cases h1;exact h3
    · rw [Zc hc hv] at hst0;cases hst0;cases he
  refine Ret.bindE hst0 ?_
  refine Ret.bind (P:=fun v:Int×Int×List Int×List Bool×List zw=>v.1=0→e0=0∧TrOk c Any q0 tr∧v.2=kA (stF c q0 tr)) ?_ ?_
  · refine Ret.bind (P:=fun v:Int×Int×List Int×List Bool×List zw=>v.1=0→e0=0∧TrOk c Any q0 tr∧v.2=kA (stF c q0 tr)) ?_ (fun v hv=>Ret.some hv)
    refine Ret.iter (fun s:Int×Int×Int×List Int×List Bool×List zw=>∃ (e:Int) (k:Nat) (y:Int×List Int×List Bool×List zw),s=(e,(k:Int),y)∧k≤tr.length∧(e=0→e0=0∧TrOk c Any q0 (tr.take k)∧y=kA (stF c q0 (tr.take k)))) (fun s=>((tr.length:Int) - s.2.1).toNat) ⟨e0,0,kA q0,rfl,by omega,fun he=>⟨he,by rw [List.take_zero];exact .nil trivial,by rw [List.take_zero];rfl⟩⟩ ?_
    rintro _ ⟨e,k,y,rfl,hk,hy⟩
    refine Ret.bindE (v:=decide ((k:Int) < tr.length)&&(e == 0)) (by show (bif decide ((k:Int) < tr.length) then some (e == 0) else some false)=_;cases decide ((k:Int) < tr.length)<;>rfl) ?_
    refine Ret.ite (fun hlt => ?_) (fun hge=>Ret.some fun he => ?_)
    · simp only [Bool.and_eq_true,decide_eq_true_eq,beq_iff_eq] at hlt
      obtain ⟨hlt,rfl⟩:=hlt
      obtain ⟨rfl,h1,rfl⟩:=hy rfl
      have hkl:k < tr.length:=by omega
      refine Ret.bindE (v:=tr[k]) (zl (List.getElem?_eq_getElem hkl)) ?_
      have hvk:=h1.vsl hc (hv0 rfl)
      obtain ⟨r,hr,hcase⟩:=zgz hc hvk tr[k]
      refine Ret.bindE (v:=r) hr ?_
      refine Ret.some ⟨⟨r.2,k+1,kA r.1,?_,hkl,fun h0 => ?_⟩,?_⟩
      · show (r.2,IntKind.i64.wrap ((k:Int)+1),kA r.1)=_
        rw [zY (by omega) (by omega)];rfl
      · rcases hcase with ⟨_,g1,g2,g3,g4⟩ | hne
        · rw [List.take_succ_eq_append_getElem hkl,kC,g1]
          exact ⟨rfl,h1.snoc g4 g2 g3 trivial,rfl⟩
        · exact absurd h0 hne
      · show ((tr.length:Int) - IntKind.i64.wrap ((k:Int)+1)).toNat < ((tr.length:Int) - (k:Int)).toNat
        rw [zY (by omega) (by omega)];omega
    · have he:e=0:=he
      subst he
      obtain ⟨g1,g2,g3⟩:=hy rfl
      have:k=tr.length:=by
        simp only [beq_self_eq_true,Bool.and_true,decide_eq_false_iff_not] at hge
        omega
      subst this
      rw [List.take_length] at g2 g3
      exact ⟨g1,g2,g3⟩
  rintro ⟨e3,y⟩ hv3
  simp only at hv3
  rcases hF with ⟨he,hl⟩ | ⟨he,s0,L,hst,hvs,hr,h,hB,hF⟩
  · simp only at he
    rw [show (((l,e):List Zaj×Int).2 == 0)=false from beq_eq_false_iff_ne.2 he]
    refine Ret.bindE (v:=true) rfl ?_
    exact Ret.ite (fun _=>Ret.some rfl) (fun h=>by cases h)
  simp only at he hF
  subst he
  refine Ret.bindE (v := !(e3 == 0)) rfl ?_
  refine Ret.ite (fun _=>Ret.some rfl) (fun h3 => ?_)
  have h3:e3=0:=by simpa using h3
  obtain ⟨rfl,ht,rfl⟩:=hv3 h3
  have:=W7 hst hst0
  subst this
  have hvq:=ht.vsl hc hvs
  have hll:=hF.len hc hvs
  have sm:=qi (hc.off.lt (by omega:0 < 8)) hvs.cv
  have s3:=sm.Zae
  obtain ⟨m,d,hm,_,_⟩:=VM h ht tr.length (Nat.le_refl _)
  rw [List.take_length] at hm
  refine Ret.ite (fun _ => ?_) (fun hne => ?_)
  rotate_left
  · have hlm:=hvq.lm
    have hne:=beq_eq_false_iff_ne.1 hne
    exact absurd (show (((kA (stF c q0 tr)).2.2.2.length:Nat):Int)=(c.Zae.length:Int) by show ((stF c q0 tr).Zal.length:Int)=_;rw [hlm]) hne
  refine Ret.bind (P:=fun o:Unit ⊕ Unit=>o=.inl ()) (Ret.forL (n:=l.length) (fun _ _=>True) (by omega) trivial (fun i _ hi _ => ?_) (fun _ _=>rfl)) ?_
  · have hix:=zl (List.getElem?_eq_getElem hi)
    refine Ret.bindE (v:=false) ?_ (Ret.ite (fun h=>by cases h) (fun _=>Ret.some trivial))
    show (Option.bind (ze l (i:Int)) fun e2=>(bif (e2.kind == 4) then (bif decide ((tr.length:Int) < (e2.Zaz.length:Int)) then (Option.bind (xF c (stF c q0 tr) e2.clause e2.other) fun r6=>some r6) else some false) else some false))=_
    rw [hix,ZaI]
    cases h4:(l[i].kind == 4) with
    | false=>rfl
    | true=>
      rcases hF.cases (List.getElem_mem hi) with ⟨g1,_⟩ | ⟨j,_,_,g1⟩ | ⟨j,_,_,_,g1⟩ | ⟨a,b,hC⟩
      · rw [g1] at h4;exact absurd h4 (by decide)
      · rw [g1] at h4;exact absurd h4 (by simp [jN])
      · rw [g1] at h4;exact absurd h4 (by simp [wc])
      · obtain ⟨_,_,g3,g4,ha,hb,ho,k,q,hk,hcl,hno,_,_,hdp⟩:=hC
        rw [cond_true,g3,g4,Xi hc hvq ha hb,ho,Bool.true_and]
        cases hcs:yC c (stF c q0 tr) a b with
        | false=>cases decide ((tr.length:Int) < ((l[i]).Zaz.length:Int))<;>rfl
        | true=>
          have hkm:k≤m:=by
            rcases Nat.lt_or_ge m k with hlt | hge
            · rw [hno m _ hlt hm] at hcs;cases hcs
            · exact hge
          have:=zeR h ht hm hkm hdp
          rw [decide_eq_false (show ¬ (tr.length:Int) < ((l[i]).Zaz.length:Int) by omega)]
          rfl
  rintro _ rfl
  simp only [Sum.elim_inl]
  refine Ret.bind (P:=fun o:Unit ⊕ Unit=>o=.inl ()) (Ret.forL (fun _ _=>True) (by omega) trivial (fun i _ hi _ => ?_) (fun _ _=>rfl)) (by rintro _ rfl;exact Ret.some rfl)
  refine Ret.bind (P:=fun o:Unit ⊕ Unit=>o=.inl ()) (Ret.forL (fun _ _=>True) (by omega) trivial (fun j _ hj _ => ?_) (fun _ _=>rfl)) (by rintro _ rfl;exact Ret.some trivial)
  refine Ret.bindE (v:=false) ?_ (Ret.ite (fun h=>by cases h) (fun _=>Ret.some trivial))
  show (Option.bind (xF c (stF c q0 tr) (i:Int) (j:Int)) fun r7=>(bif r7 then (Option.bind (yu l (i:Int) (j:Int)) fun r8=>some (!r8)) else some false))=_
  rw [Xi hc hvq hi hj,ZaI,zh0 l (by omega)]
  cases ho:kE c i j with
  | false=>rfl
  | true=>
    cases hcs:yC c (stF c q0 tr) i j with
    | false=>rfl
    | true=>
      rw [hF.clash hi hj ho ⟨_,List.mem_of_getElem? hm,hcs⟩]
      rfl
end
end Go.Proofs.YtlpmnmbebkdocaaGreatDoor
namespace Go.Proofs.YtlpmnmbebkdocaaGreatDoor
open Go.ChangeShapes Go.WideShapes Go.RowKit
set_option maxRecDepth 100000
abbrev J5 : List (String × DataW Unit) := [("math/bits.deBruijn32tab", Rows.laid_math_bits_deBruijn32tab), ("math/bits.deBruijn64tab", Rows.laid_math_bits_deBruijn64tab), ("internal/strconv.uint64pow10", Rows.laid_internal_strconv_uint64pow10)]
theorem zgB:(J5.filter fun x=>x.1 == xK)=[(xK,Lib.tabData .u64 Lib.pow10Tab)]:=by kernel_rfl
theorem zaX {W:World} (h:laidMet Tryz.prog J5 W):C0.tabs.p W∧C0.tabs.n≤W.heap.size:=by
  have h1:=h.filter (fun x=>x.1 == xK)
  rw [zgB] at h1
  have h2:C0.tabs.p W:=Lib.tabIs_of_head (g:=0) (t:=((Tryz.prog.globals[0]?).map (·.type)).getD 0) (e:=193) (n:=20)
    (by kernel_rfl) (by kernel_rfl) (by kernel_rfl) (by kernel_rfl) (by kernel_rfl) (by kernel_rfl) h1
  exact ⟨h2,zcA h2⟩
def zjS:DataW Unit→Array Value
  | .agg ds=>(ds.map fun d=>match d with | .lit (.int k n)=>Value.int k n | _=>Value.bool false).toArray
  | _ => #[]
def zaY (w:World) (g:Nat) (d:DataW Unit):World:={w with heap:=w.heap.modify g fun | .cells _ t f=>.cells (zjS d) t f | o=>o}
noncomputable def YJ (os:Os):World:=
  zaY (zaY (zaY (World.holding Tryz.prog os ⟨#[],#[],[]⟩) 1 Rows.laid_math_bits_deBruijn32tab) 2 Rows.laid_math_bits_deBruijn64tab) 0 Rows.laid_internal_strconv_uint64pow10
theorem YX (os:Os) (args:Array Value):laidMet Tryz.prog J5 ((YJ os).forCall (fun _ _=>0) ⟨#[],args,[]⟩).memory:=
  laidMet_of_run3 8 (by kernel_rfl) (by kernel_rfl) (by kernel_rfl)
end Go.Proofs.YtlpmnmbebkdocaaGreatDoor
namespace Go.Proofs.YtlpmnmbebkdocaaGreatDoor.LTrapShortest
open Go.ChangeShapes Go.WideShapes Go.ChangeAt Go.RowKit
set_option linter.unusedVariables false
set_option maxRecDepth 100000
theorem all (ivs:List IV) (h:JO [(true,Zab.tys),(false,[.slice 8 [.int .i64]])] ivs):APure C0 312 ivs (.bool true):=by
  match ivs,h with
  | [x0,x1],⟨a0,a1,_⟩=>
    obtain ⟨row0,rfl,r0⟩:=a0
    obtain ⟨c,rfl,ok_c⟩:=Zab.opn r0
    obtain ⟨c1,_,e1,k1,n1⟩:=zf a1
    cases e1
    obtain ⟨Zaz,rfl,ok_trace⟩:=qd vj k1
    exact VC c Zaz true (VU c Zaz ok_c ok_trace)
theorem own:ownKnob Tryz.prog.godebug=none:=by kernel_rfl
theorem laid:laidOutB Tryz.prog=true:=by kernel_rfl
theorem args:mapO (zaj Tryz.prog) Tryz.f9.params.toList=some [(true,Zab.tys),(false,[.slice 8 [.int .i64]])]:=by kernel_rfl
theorem zjT (os:Os) (started:os.Started) (H:Type) (enc:TypeId×Value→H) :
    ReturnsInHanded {} Tryz.checked os 9 .any (fun w args=>(Rows.trapShortestSpec.pre enc Tryz.prog Tryz.f9 [] false w args∧laidMet Tryz.prog J5 w)∧sizedMet enc Tryz.prog Tryz.f9 (OpenSpec.ofChange Rows.trapShortestSpec) false w args) (Rows.trapShortestSpec.post enc Tryz.prog Tryz.f9 false true false false):=by
  refine returnsInHanded_of_change_and (C:=Tryz.checked) (X:=fun w _=>laidMet Tryz.prog J5 w) (fun _ _ _ hh h=>h.of_heap hh) own started (by kernel_rfl) Tryz.func9
    (ChangeSpec.witness_at (enc:=enc) (C:=Tryz.checked) (os:=os) (X:=fun w _=>laidMet Tryz.prog J5 w) false (YJ os) #[.agg #[.int .i64 0,.slice none 0 0,.slice none 0 0,.slice none 0 0,.slice none 0 0,.int .i64 0,.slice none 0 0],.slice none 0 0] 8 rfl (by kernel_rfl) (by kernel_rfl) (by kernel_rfl) (by kernel_rfl) (by kernel_rfl) (YX os _)) ?_
  intro W base args ds gs before hval hW _ hwt hL _
  exact zak (Cx:=C0) (tb:=4) 312 rfl LTrapShortest.args rfl (by kernel_rfl) rfl
    (fun ds h=>by match ds,h with | [_,_],_=>rfl) LTrapShortest.laid (by kernel_rfl) LTrapShortest.all W (zaX hL) base args ds gs before hval hW hwt
theorem zmp:Rows.TrapShortestSaid:=
  OpenClaim.holds_of_wide 9 Tryz.f9 rfl rfl rfl rfl rfl rfl rfl ⟨rfl,rfl,rfl,rfl,rfl⟩ rfl rfl rfl rfl rfl (by kernel_rfl) Tryz.func9 (by kernel_rfl)
    (of_decide_eq_true (by kernel_rfl)) (by unfold Func.isWrapper;first | (rw [if_pos (by decide +kernel)];kernel_rfl) | (rw [if_neg (by decide +kernel)];exact ⟨rfl,rfl⟩))
    (fun os started H enc _=>zjT os started H enc)
theorem holds:Rows.TrapShortestCardSaid:=
  Claim7.holds_tied_plain_at .later [] [.data, .data, .data] true (true, "7bc6b4a7d0776bec5163c6b97d3bd90ad221a013c50c4dd2d862c7360c2f6317") false
    zmp (fun _ h=>by cases h) (by kernel_rfl) (fun _ h=>by cases h) trapShortest_row_tie rfl ⟨rfl,rfl⟩ (by kernel_rfl) rfl
    (fun f fn hf hfn=>by
      obtain rfl : f = 9 := Option.some.inj ((show Tryz.prog.funcNamed "estoppel/estoppellaw21.TrapShortest" = some 9 by kernel_rfl).symm.trans hf) |>.symm
      obtain rfl:fn=Tryz.f9:=(Option.some.inj (Tryz.func9.symm.trans hfn)).symm
      refine ⟨by kernel_rfl,fun j t ht => ?_⟩
      have hall:(Tryz.f9.params.toList.all fun t=>!(Tryz.prog.wantsStandIn t))=true:=by kernel_rfl
      have:=List.all_eq_true.1 hall t (by rw [Array.mem_toList_iff];exact Array.mem_of_getElem? ht)
      have h2:Tryz.prog.wantsStandIn t=false:=by simpa using this
      exact h2)
    (by kernel_rfl)
end Go.Proofs.YtlpmnmbebkdocaaGreatDoor.LTrapShortest
namespace Go.Proofs.YtlpmnmbebkdocaaGreatDoor
theorem trapShortest_holds:Rows.TrapShortestCardSaid:=LTrapShortest.holds
end Go.Proofs.YtlpmnmbebkdocaaGreatDoor
