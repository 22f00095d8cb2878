/-
  'TrapShows': for every input the call returns true, and each argument reads afterwards as it read before.
  The tables of the library that the rows list: from the row's condition to what the contracts ask; the witness.
  The law 'TrapShows'.
  What the laws of layer 21 ask of a list of findings.
  The fixed example of the laws of layer 21: 'head' returns true. Printed by mkheads.py.
  One of the calls of the fixed example of the laws of layer 21. Printed by mkheads.py.
-/
import Derived.Test.YtlpmnmbebkdocaaGreatDoorTS13
import Derived.Test.YtlpmnmbebkdocaaGreatDoorTS12
import Derived.Test.YtlpmnmbebkdocaaGreatDoorRows
import Derived.Test.YtlpmnmbebkdocaaGreatDoorTS11
import Derived.LaidLaws
import Derived.LaidSub
import Derived.Deep.DeepLaidRun
import Derived.Lib.LaidTab
import Derived.JoinedOf
import Derived.Test.YtlpmnmbebkdocaaGreatDoorTS06
import Derived.Test.YtlpmnmbebkdocaaGreatDoorTie
import Derived.Test.YtlpmnmbebkdocaaGreatDoorCards
import Derived.SevenTiedAt
namespace Go.Proofs.YtlpmnmbebkdocaaGreatDoor
set_option linter.unusedSimpArgs false
set_option linter.unusedVariables false
set_option maxRecDepth 100000
theorem zjF:qu ({Zao:=1,Zag:=[0],Zaw:=[],Zaj:=[({kind:=1,Zap:=0,give:=0,to:=(-1),unit:=(-1),lot:=({num:=0,den:=1}:Ratio)}:Zaq)],Zaf:=[({kind:=1,Zap:=0,act:=0,need:=1,start:=[],after:=2,Zay:=0,ZaE:=false,final:=true,pause:=(-1),ZaC:=(-1),value:=({num:=0,den:=1}:Ratio),unit:=(-1),to:=(-1),Zaz:=false}:Zam),({kind:=2,Zap:=0,act:=0,need:=1,start:=[],after:=1,Zay:=0,ZaE:=false,final:=true,pause:=(-1),ZaC:=(-1),value:=({num:=0,den:=1}:Ratio),unit:=(-1),to:=(-1),Zaz:=false}:Zam)],Zat:=5,off:=[]}:Zab) ({kind:=4,Zaa:=(-1),clause:=0,other:=1,ZaA:=[]}:Zai)=some false:=vJ _ _ _ (by kernel_rfl)
theorem zjG:qu ({Zao:=1,Zag:=[0],Zaw:=[],Zaj:=[({kind:=1,Zap:=0,give:=0,to:=(-1),unit:=(-1),lot:=({num:=0,den:=1}:Ratio)}:Zaq)],Zaf:=[({kind:=1,Zap:=0,act:=0,need:=1,start:=[],after:=2,Zay:=0,ZaE:=false,final:=true,pause:=(-1),ZaC:=(-1),value:=({num:=0,den:=1}:Ratio),unit:=(-1),to:=(-1),Zaz:=false}:Zam),({kind:=2,Zap:=0,act:=0,need:=1,start:=[],after:=3,Zay:=0,ZaE:=false,final:=true,pause:=(-1),ZaC:=(-1),value:=({num:=0,den:=1}:Ratio),unit:=(-1),to:=(-1),Zaz:=false}:Zam)],Zat:=5,off:=[]}:Zab) ({kind:=2,Zaa:=(-1),clause:=1,other:=(-1),ZaA:=[]}:Zai)=some false:=vJ _ _ _ (by kernel_rfl)
noncomputable def e_head21:Option (Bool):=
  (Option.bind (x3 3) fun r1=>(Option.bind (x3 1) fun r2=>(Option.bind (x3 3) fun r3=>(Option.bind (some (([({kind:=1,Zaa:=0,clause:=(-1),other:=(-1),ZaA:=[(-1),(-1)]}:Zai),({kind:=4,Zaa:=(-1),clause:=0,other:=1,ZaA:=[]}:Zai)],0):List Zai×Int)) fun r4=>(Option.bind (some (([],0):List Zai×Int)) fun r5=>(Option.bind (some (([({kind:=2,Zaa:=(-1),clause:=1,other:=(-1),ZaA:=[]}:Zai)],0):List Zai×Int)) fun r6=>(Option.bind (bif (r4.2 == 0) then (Option.bind (vz r4.1 ([({kind:=1,Zaa:=0,clause:=(-1),other:=(-1),ZaA:=[(-1),(-1)]}:Zai),({kind:=4,Zaa:=(-1),clause:=0,other:=1,ZaA:=[]}:Zai)])) fun r7=>(bif r7 then (bif (r5.2 == 0) then (bif ((r5.1.length:Int) == 0) then (bif (r6.2 == 0) then (Option.bind (vz r6.1 ([({kind:=2,Zaa:=(-1),clause:=1,other:=(-1),ZaA:=[]}:Zai)])) fun r8=>some r8) else some false) else some false) else some false) else some false)) else some false) fun v1=>(Option.bind (bif v1 then (Option.bind (some true) fun r9=>(bif r9 then (Option.bind (some true) fun r10=>(bif r10 then (Option.bind (some true) fun r11=>(bif r11 then (Option.bind (some false) fun r12=>(bif r12 then some false else (Option.bind (some false) fun r13=>(bif r13 then some false else (Option.bind (some false) fun r14=>some (!r14)))))) else some false)) else some false)) else some false)) else some false) fun v2=>some v2))))))))
theorem zgr:kn=some true:=by
  have e:kn=e_head21:=by
    unfold kn e_head21
    rw [zjy,zjz,zjA,zjB,zjC,zjD,zjE,zjF,zjG]
  exact e.trans (show e_head21=some true by kernel_rfl)
end Go.Proofs.YtlpmnmbebkdocaaGreatDoor
namespace Go.Proofs.YtlpmnmbebkdocaaGreatDoor
open Go.RowKit
set_option linter.unusedSimpArgs false
set_option linter.unusedVariables false
set_option maxRecDepth 100000
section
def VN (k p cl:Int) (f:Zai):Bool:=f.kind == k&&(f.Zaa == p&&f.clause == cl)
theorem zeV {α:Type} {l:List α} {p:α→Bool} {b:Bool} (h1:b=true→∃ x∈l,p x=true) (h2:∀ x∈l,p x=true→b=true):l.any p=b:=by
  cases b with
  | true=>exact List.any_eq_true.2 (h1 rfl)
  | false=>
    rw [Bool.eq_false_iff]
    intro h
    obtain ⟨x,hx,hp⟩:=List.any_eq_true.1 h
    cases h2 x hx hp
section
variable {c:Zab} {s0:Zac} {L:List Zac} {l:List Zai}
theorem Jz {n:Nat} {f:Zai}:f∈xg L n↔∃ i,i < n∧wh L i=true∧f=qX i:=by
  simp only [xg,List.mem_map,List.mem_filter,List.mem_range]
  constructor
  · rintro ⟨i,⟨h1,h2⟩,rfl⟩;exact ⟨i,h1,h2,rfl⟩
  · rintro ⟨i,h1,h2,rfl⟩;exact ⟨i,⟨h1,h2⟩,rfl⟩
theorem YE {n:Nat} {f:Zai}:f∈xC c L n↔∃ i,i < n∧wh L i=false∧unB c L i=true∧f=jJ i:=by
  simp only [xC,List.mem_map,List.mem_filter,List.mem_range,Bool.and_eq_true,Bool.not_eq_true']
  constructor
  · rintro ⟨i,⟨h1,h2,h3⟩,rfl⟩;exact ⟨i,h1,h2,h3,rfl⟩
  · rintro ⟨i,h1,h2,h3,rfl⟩;exact ⟨i,⟨h1,h2,h3⟩,rfl⟩
theorem FindOk.cases (h:FindOk c s0 L l) {f:Zai} (hf:f∈l) :
    (f.kind=1∧f.clause = -1∧f.other = -1∧∃ p:Nat,(p:Int) < c.Zao∧f.Zaa=(p:Int)∧qW c (p:Int) (atO s0)=false∧PlayT c (p:Int) s0 f.ZaA) ∨
    (∃ i,i < c.Zaf.length∧wh L i=true∧f=qX i)∨(∃ i,i < c.Zaf.length∧wh L i=false∧unB c L i=true∧f=jJ i)∨(∃ a b,ClF c s0 L a b f):=by
  obtain ⟨F,C,rfl,hF,hC⟩:=h
  simp only [List.mem_append] at hf
  rcases hf with ((hf | hf) | hf) | hf
  · obtain ⟨h1,h2,h3,p,h4,h5⟩:=hF.el f hf
    exact .inl ⟨h1,h2,h3,p,by omega,h5⟩
  · exact .inr (.inl (Jz.1 hf))
  · exact .inr (.inr (.inl (YE.1 hf)))
  · obtain ⟨a,b,_,h1⟩:=hC.el f hf
    exact .inr (.inr (.inr ⟨a,b,h1⟩))
theorem FindOk.forced (h:FindOk c s0 L l) {p:Nat} (hp:(p:Int) < c.Zao):l.any (VN 1 (p:Int) (-1))=!qW c (p:Int) (atO s0):=by
  refine zeV (fun hs => ?_) (fun f hf hh => ?_)
  · obtain ⟨F,C,rfl,hF,hC⟩:=h
    obtain ⟨f,h1,h2⟩:=hF.has p (by omega) (by simpa using hs)
    refine ⟨f,by simp [h1],?_⟩
    obtain ⟨g1,g2,g3,_⟩:=hF.el f h1
    simp [VN,g1,g2,h2]
  · simp only [VN,Bool.and_eq_true,beq_iff_eq] at hh
    rcases h.cases hf with ⟨_,_,_,q,_,h5,h6,_⟩ | ⟨i,_,_,rfl⟩ | ⟨i,_,_,_,rfl⟩ | ⟨a,b,h1⟩
    · rw [h5] at hh
      have:q=p:=by omega
      subst this
      rw [h6];rfl
    · exact absurd hh.1 (by first | decide | simp [qX,jJ])
    · exact absurd hh.1 (by first | decide | simp [qX,jJ])
    · rw [h1.kind] at hh;exact absurd hh.1 (by first | decide | simp [qX,jJ])
theorem FindOk.dead (h:FindOk c s0 L l) {i:Nat} (hi:i < c.Zaf.length):l.any (VN 2 (-1) (i:Int))=wh L i:=by
  refine zeV (fun hs => ?_) (fun f hf hh => ?_)
  · obtain ⟨F,C,rfl,hF,hC⟩:=h
    have:qX i∈xg L c.Zaf.length:=Jz.2 ⟨i,hi,hs,rfl⟩
    exact ⟨qX i,by simp [this],by simp [VN,qX]⟩
  · simp only [VN,Bool.and_eq_true,beq_iff_eq] at hh
    rcases h.cases hf with ⟨h1,_⟩ | ⟨j,_,h2,rfl⟩ | ⟨j,_,_,_,rfl⟩ | ⟨a,b,h1⟩
    · rw [h1] at hh;exact absurd hh.1 (by first | decide | simp [qX,jJ])
    · have:j=i:=by have:=hh.2.2;simp only [qX] at this;omega
      subst this;exact h2
    · exact absurd hh.1 (by first | decide | simp [qX,jJ])
    · rw [h1.kind] at hh;exact absurd hh.1 (by first | decide | simp [qX,jJ])
theorem FindOk.len (hc:c.Ok) (hv:VS c s0) (h:FindOk c s0 L l):l.length < 1000000:=by
  have sm:=qn (hc.off.lt (by omega:0 < 8)) hv.cv
  have s1:=sm.Zao
  have s3:=sm.Zaf
  obtain ⟨F,C,rfl,hF,hC⟩:=h
  have l1:=Jt L c.Zaf.length
  have l2:=Ju c L c.Zaf.length
  have h1:=hF.len
  have h2:=hC.len
  have hbig:c.Zaf.length*c.Zaf.length≤400*400:=Nat.mul_le_mul (by omega) (by omega)
  simp only [List.length_append]
  omega
end
end
section
def Lx (a b:Zai):Prop:=a.kind < b.kind∨(a.kind=b.kind∧(a.Zaa < b.Zaa∨(a.Zaa=b.Zaa∧(a.clause < b.clause∨(a.clause=b.clause∧a.other < b.other)))))
section
variable {c:Zab} {s0:Zac} {L:List Zac} {l:List Zai}
theorem zc6 (hc:c.Ok) (hv:VS c s0) {f:Zai} {p:Int} (hp:f.Zaa=p) (h0:0≤p) (h1:p < c.Zao) (h:PlayT c p s0 f.ZaA):vA c s0 f=some true:=by
  refine Ret.eq ?_
  have hlen:=h.len
  obtain ⟨k0,p0,cl,ot,tr⟩:=f
  simp only at hp h hlen
  subst hp
  unfold vA
  simp only
  refine Ret.bind (P:=fun o:(Int×List Int×List Bool×List zw) ⊕ Unit=>o=.inl (ZI (stF c s0 tr))) (Ret.forL (fun k s=>s=ZI (stF c s0 (tr.take k))) (by omega) (by rw [List.take_zero];rfl) (fun k s hk hs => ?_) (fun s hs=>by rw [hs,List.take_length])) ?_
  · subst hs
    obtain ⟨g1,g2,g3,_⟩:=h.tr.step k hk
    obtain ⟨o1,o2⟩:=h.oth k hk
    have hvk:=h.tr.vs hc hv k (by omega)
    refine Ret.bindE (v:=tr[k]) (zl (List.getElem?_eq_getElem hk)) ?_
    refine Ret.bindE (v:=false) ?_ ?_
    · show (bif tr[k] == -1 then some false else (Option.bind (ZE c (stF c s0 (tr.take k)) tr[k]) fun r1=>some (r1 == p0)))=_
      cases hz:(tr[k] == -1) with
      | true=>rfl
      | false=>
        have hz2:=beq_eq_false_iff_ne.1 hz
        obtain ⟨i,hi⟩:∃ i:Nat,tr[k]=(i:Int):=⟨tr[k].toNat,by omega⟩
        have hil:i < c.Zaj.length:=by omega
        rcases o1 with o1 | o1
        · exact absurd o1 hz2
        · unfold Qr at o1
          rw [if_neg hz2,hi,Int.toNat_natCast,List.getElem?_eq_getElem hil] at o1
          rw [hi,zjn hc hvk (List.getElem?_eq_getElem hil)]
          simp only [ZaH,ZaI]
          rw [beq_eq_false_iff_ne.2 o1]
    refine Ret.ite (fun h=>by cases h) (fun _ => ?_)
    have hs:=(xW hc hvk g2 g3 g1).1
    refine Ret.bindE (v:=(qj c (stF c s0 (tr.take k)) tr[k],0)) hs ?_
    refine Ret.ite (fun _ => ?_) (fun h=>by cases h)
    refine Ret.bindE (v:=false) ?_ ?_
    · show (bif ((k:Int) == IntKind.i64.wrap ((tr.length:Int) - 1)) then (Option.bind (xe c (stF c s0 (tr.take k)) p0) fun r3=>some r3) else some false)=_
      rw [zaG hc hvk h0 h1,o2]
      cases ((k:Int) == IntKind.i64.wrap ((tr.length:Int) - 1))<;>rfl
    refine Ret.ite (fun h=>by cases h) (fun _=>Ret.some ?_)
    show ZI (qj c (stF c s0 (tr.take k)) tr[k])=_
    rw [List.take_succ_eq_append_getElem hk,ky]
  rintro _ rfl
  simp only [Sum.elim_inl]
  refine Ret.bindE (v:=true) ?_ (Ret.some rfl)
  show xe c (stF c s0 tr) p0=_
  rw [zaG hc (h.tr.vsl hc hv) h0 h1,h.lost]
theorem zeW (hc:c.Ok) (hst:qB c=some (s0,0)) (hv:VS c s0) (hr:jS c=some (L,0)) (h:ReachOk c s0 L) (hB:∀ p:Nat,(p:Int) < c.Zao→∃ a,jg c (p:Int)=some (a,0)∧ArOk c (p:Int) (atO s0) a) (hF:FindOk c s0 L l) {f:Zai} (hf:f∈l):qu c f=some true:=by
  refine Ret.eq ?_
  have sm:=qn (hc.off.lt (by omega:0 < 8)) hv.cv
  have s2:=sm.Zaj
  unfold qu
  refine Ret.bindE hst ?_
  refine Ret.ite (fun _ => ?_) (fun h=>by cases h)
  rcases hF.cases hf with ⟨h1,h2,h3,p,h4,h5,h6,h7⟩ | ⟨i,hi,hd,rfl⟩ | ⟨i,hi,hd,hu,rfl⟩ | ⟨a,b,hC⟩
  · refine Ret.bindE (v:=false) (by rw [h2];rfl) ?_
    refine Ret.ite (fun _ => ?_) (fun hq=>by rw [h1] at hq;cases hq)
    refine Ret.bindE (v:=true) ?_ (Ret.some rfl)
    obtain ⟨a,hb,A⟩:=hB p h4
    have hfor:vC c (p:Int)=some true:=by
      unfold vC
      rw [hb]
      have hpos:=A.pos
      have hfst:=A.F.first
      rw [List.getElem?_eq_getElem hpos] at hfst
      have hs:=zhK A hpos
      rw [show a.Zau[0]=atO s0 from Option.some.inj hfst,h6] at hs
      simp only [ZaI,zgf hc A,show ze (a.Zau.map (qW c (p:Int))) 0=some false from hs]
      rfl
    have hfr:=zc6 hc hv h5 (by omega) h4 h7
    rw [h5,h2,h3,hfr,hfor,decide_eq_true (show (0:Int)≤(p:Int) by omega),decide_eq_true h4]
    rfl
  · have hcl:(bif decide (0≤(qX i).clause) then bif decide ((qX i).clause < (c.Zaf.length:Int)) then some ((qX i).Zaa == (-1)) else some false else some false)=some true:=by
      show (bif decide (0≤(i:Int)) then bif decide ((i:Int) < (c.Zaf.length:Int)) then some true else some false else some false)=_
      rw [decide_eq_true (show (0:Int)≤(i:Int) by omega),decide_eq_true (show (i:Int) < (c.Zaf.length:Int) by omega)];rfl
    refine Ret.bindE hcl ?_
    refine Ret.bindE (v:=true) ?_ (Ret.some rfl)
    have hn:xt c (qX i)=some true:=by
      refine Ret.eq ?_
      unfold xt
      refine Ret.bindE hr ?_
      refine Ret.ite (fun _ => ?_) (fun h=>by cases h)
      refine Ret.ite (fun _ => ?_) (fun h=>absurd h (by simp [qX]))
      refine Ret.bindE (v:=true) ?_ (Ret.some rfl)
      rw [←hd];exact XI h hi
    show (bif true then bif true then bif true then (Option.bind (xt c (qX i)) fun r4=>some r4) else some false else some false else some false)=_
    rw [hn];rfl
  · have hcl:(bif decide (0≤(jJ i).clause) then bif decide ((jJ i).clause < (c.Zaf.length:Int)) then some ((jJ i).Zaa == (-1)) else some false else some false)=some true:=by
      show (bif decide (0≤(i:Int)) then bif decide ((i:Int) < (c.Zaf.length:Int)) then some true else some false else some false)=_
      rw [decide_eq_true (show (0:Int)≤(i:Int) by omega),decide_eq_true (show (i:Int) < (c.Zaf.length:Int) by omega)];rfl
    refine Ret.bindE hcl ?_
    refine Ret.bindE (v:=true) ?_ (Ret.some rfl)
    have hn:xt c (jJ i)=some true:=by
      refine Ret.eq ?_
      unfold xt
      refine Ret.bindE hr ?_
      refine Ret.ite (fun _ => ?_) (fun h=>by cases h)
      refine Ret.ite (fun h=>absurd h (by simp [jJ])) (fun _ => ?_)
      refine Ret.bindE (v:=true) ?_ (Ret.some rfl)
      refine Ret.eq ?_
      refine Ret.bindE (v:=false) (by rw [←hd];exact XI h hi) ?_
      refine Ret.ite (fun h=>by cases h) (fun _ => ?_)
      refine Ret.bindE (v:=true) (by rw [←hu];exact zeO h hi) ?_
      exact Ret.some rfl
    show (bif true then bif true then bif true then (Option.bind (xt c (jJ i)) fun r4=>some r4) else some false else some false else some false)=_
    rw [hn];rfl
  · have hC0:=hC
    obtain ⟨g1,g2,g3,g4,ha,hb,ho,k,q,hk,hcl,_,ht,hq,hdp⟩:=hC
    have hmax:f.ZaA.length≤1500:=by
      have hle:∀ {m d:Nat},Dp c L m d→d≤m:=by
        intro m d hd
        induction hd with
        | zero=>omega
        | next h0 _ hn _ ih=>omega
      have:=hle hdp
      have:=(List.getElem?_eq_some_iff.1 hk).1
      have:=h.inv.len
      omega
    refine Ret.bindE (v:=true) (by
      rw [g3,g2,decide_eq_true (show (0:Int)≤(a:Int) by omega),decide_eq_true (show (a:Int) < (c.Zaf.length:Int) by omega)];rfl) ?_
    rw [g1]
    refine Ret.ite (fun h=>absurd h (by decide)) (fun _ => ?_)
    refine Ret.bindE (v:=false) (by decide) ?_
    refine Ret.ite (fun h=>by cases h) (fun _ => ?_)
    refine Ret.ite (fun _ => ?_) (fun h=>absurd h (by decide))
    refine Ret.bindE (v:=false) (by
      rw [cond_true,g4,g3,decide_eq_false (show ¬ (b:Int) < 0 by omega),decide_eq_false (show ¬ (c.Zaf.length:Int)≤(b:Int) by omega),ZaH,ZaH,zbT (by omega) ha hb,ho];rfl) ?_
    refine Ret.ite (fun h=>by cases h) (fun _ => ?_)
    refine Ret.bind (P:=fun o:(Int×List Int×List Bool×List zw) ⊕ Unit=>o=.inl (ZI (stF c s0 f.ZaA))) (Ret.forL (fun k s=>s=ZI (stF c s0 (f.ZaA.take k))) (by omega) (by rw [List.take_zero];rfl) (fun k s hk hs => ?_) (fun s hs=>by rw [hs,List.take_length])) ?_
    · subst hs
      obtain ⟨g1,g2,g3,_⟩:=ht.step k hk
      have hvk:=ht.vs hc hv k (by omega)
      refine Ret.bindE (v:=(f.ZaA)[k]) (zl (List.getElem?_eq_getElem hk)) ?_
      have hs:=(xW hc hvk g2 g3 g1).1
      refine Ret.bindE (v:=(qj c (stF c s0 (f.ZaA.take k)) (f.ZaA)[k],0)) hs ?_
      refine Ret.ite (fun _=>Ret.some ?_) (fun h=>by cases h)
      show ZI (qj c (stF c s0 (f.ZaA.take k)) (f.ZaA)[k])=_
      rw [List.take_succ_eq_append_getElem hk,ky]
    rintro _ rfl
    simp only [Sum.elim_inl]
    refine Ret.bindE (v:=true) ?_ (Ret.some rfl)
    show wC c (stF c s0 f.ZaA) f.clause f.other=_
    rw [g3,g4,zeP hc (ht.vsl hc hv) ha hb,hq,hcl]
theorem zgs (hF:FindOk c s0 L l):l.Pairwise Lx:=by
  have hk:=fun f (hf:f∈l)=>hF.cases hf
  obtain ⟨F,C,rfl,hFo,hC⟩:=hF
  have kF:∀ f∈F,f.kind=1:=fun f hf=>(hFo.el f hf).1
  have kD:∀ f∈xg L c.Zaf.length,f.kind=2:=fun f hf=>by obtain ⟨i,_,_,rfl⟩:=Jz.1 hf;rfl
  have kI:∀ f∈xC c L c.Zaf.length,f.kind=3:=fun f hf=>by obtain ⟨i,_,_,_,rfl⟩:=YE.1 hf;rfl
  have kC:∀ f∈C,f.kind=4:=fun f hf=>by obtain ⟨a,b,_,h1⟩:=hC.el f hf;exact h1.kind
  refine List.pairwise_append.2 ⟨List.pairwise_append.2 ⟨List.pairwise_append.2 ⟨?_,?_,?_⟩,?_,?_⟩,?_,?_⟩
  · exact hFo.ord.imp_of_mem fun hf hg h=>.inr ⟨by rw [kF _ hf,kF _ hg],.inl h⟩
  · unfold xg
    refine List.Pairwise.map _ (R:=fun i j:Nat=>i < j) (fun i j hij=>.inr ⟨rfl,.inr ⟨rfl,.inl ?_⟩⟩) (List.Pairwise.filter _ List.pairwise_lt_range)
    show (i:Int) < (j:Int);omega
  · intro f hf g hg;exact .inl (by rw [kF f hf,kD g hg];decide)
  · unfold xC
    refine List.Pairwise.map _ (R:=fun i j:Nat=>i < j) (fun i j hij=>.inr ⟨rfl,.inr ⟨rfl,.inl ?_⟩⟩) (List.Pairwise.filter _ List.pairwise_lt_range)
    show (i:Int) < (j:Int);omega
  · intro f hf g hg
    rcases List.mem_append.1 hf with hf | hf
    · exact .inl (by rw [kF f hf,kI g hg];decide)
    · exact .inl (by rw [kD f hf,kI g hg];decide)
  · refine hC.ord.imp_of_mem fun hf hg h=>.inr ⟨by rw [kC _ hf,kC _ hg],.inr ⟨?_,?_⟩⟩
    · obtain ⟨_,_,_,h1⟩:=hC.el _ hf
      obtain ⟨_,_,_,h2⟩:=hC.el _ hg
      rw [h1.Zaa,h2.Zaa]
    · exact h
  · intro f hf g hg
    rcases List.mem_append.1 hf with hf | hf
    · rcases List.mem_append.1 hf with hf | hf
      · exact .inl (by rw [kF f hf,kC g hg];decide)
      · exact .inl (by rw [kD f hf,kC g hg];decide)
    · exact .inl (by rw [kI f hf,kC g hg];decide)
end
theorem zbo (c:Zab) (hc:Zab.Ok c):Zf c=some true:=by
  refine Ret.eq ?_
  unfold Zf
  refine Ret.bindE zgr ?_
  refine Ret.bindE (zjm hc) ?_
  refine Ret.ite (fun _ => ?_) (fun _=>Ret.some rfl)
  refine Ret.bind (zgl hc) ?_
  rintro ⟨l,e⟩ hF
  rcases hF with ⟨he,hl⟩ | ⟨he,s0,L,hst,hvs,hr,h,hB,hF⟩
  · simp only at hl
    subst hl
    exact Ret.some rfl
  simp only at he hF
  have hll:=hF.len hc hvs
  have hord:=zgs hF
  refine Ret.bind (P:=fun o:Unit ⊕ Unit=>o=.inl ()) (Ret.forL (n:=l.length) (fun _ _=>True) (by omega) trivial (fun i _ hi _ => ?_) (fun _ _=>rfl)) (by rintro _ rfl;exact Ret.some rfl)
  refine Ret.bind (P:=fun o:Unit ⊕ Unit=>o=.inl ()) ?_ (by rintro _ rfl;exact Ret.some trivial)
  have hix:=zl (List.getElem?_eq_getElem hi)
  refine Ret.bindE (v:=l[i]) hix ?_
  refine Ret.bindE (zeW hc hst hvs hr h hB hF (List.getElem_mem hi)) ?_
  rw [cond_true]
  refine Ret.ite (fun _=>Ret.some rfl) (fun h0 => ?_)
  have h0:=beq_eq_false_iff_ne.1 h0
  obtain ⟨j,rfl⟩:∃ j,i=j+1:=⟨i - 1,by omega⟩
  have hj:j < l.length:=by omega
  rw [z7 (by omega) (by omega),show ((j+1:Nat):Int) - 1=(j:Int) by omega]
  refine Ret.bindE (v:=l[j]) (zl (List.getElem?_eq_getElem hj)) ?_
  refine Ret.bindE (v:=l[j+1]) hix ?_
  have ho:Lx l[j] l[j+1]:=List.pairwise_iff_getElem.1 hord j (j+1) hj hi (by omega)
  generalize l[j]=x at ho
  generalize l[j+1]=y at ho
  refine Ret.bindE (v:=false) ?_ (Ret.ite (fun h=>by cases h) (fun _=>Ret.some rfl))
  unfold Lx at ho
  rw [decide_eq_false (show ¬ y.kind < x.kind by omega),ZaH]
  by_cases e1:x.kind=y.kind
  · rw [beq_iff_eq.2 e1,cond_true,decide_eq_false (show ¬ y.Zaa < x.Zaa by omega),ZaH]
    by_cases e2:x.Zaa=y.Zaa
    · rw [beq_iff_eq.2 e2,cond_true,decide_eq_false (show ¬ y.clause < x.clause by omega),ZaH]
      by_cases e3:x.clause=y.clause
      · rw [beq_iff_eq.2 e3,cond_true,decide_eq_false (show ¬ y.other≤x.other by omega)]
      · rw [beq_eq_false_iff_ne.2 e3,ZaH]
    · rw [beq_eq_false_iff_ne.2 e2,ZaH]
  · rw [beq_eq_false_iff_ne.2 e1,ZaH]
end
end Go.Proofs.YtlpmnmbebkdocaaGreatDoor
namespace Go.Proofs.YtlpmnmbebkdocaaGreatDoor
open Go.ChangeShapes Go.WideShapes Go.RowKit
set_option maxRecDepth 100000
abbrev J7 : List (String × DataW Unit) := [("math/bits.deBruijn32tab", Rows.laid_math_bits_deBruijn32tab), ("math/bits.deBruijn64tab", Rows.laid_math_bits_deBruijn64tab), ("internal/strconv.uint64pow10", Rows.laid_internal_strconv_uint64pow10)]
theorem zgt:(J7.filter fun x=>x.1 == xT)=[(xT,Lib.tabData .u64 Lib.pow10Tab)]:=by kernel_rfl
theorem zaU {W:World} (h:laidMet Tryz.prog J7 W):C0.tabs.p W∧C0.tabs.n≤W.heap.size:=by
  have h1:=h.filter (fun x=>x.1 == xT)
  rw [zgt] at h1
  have h2:C0.tabs.p W:=Lib.tabIs_of_head (g:=0) (t:=((Tryz.prog.globals[0]?).map (·.type)).getD 0) (e:=193) (n:=20)
    (by kernel_rfl) (by kernel_rfl) (by kernel_rfl) (by kernel_rfl) (by kernel_rfl) (by kernel_rfl) h1
  exact ⟨h2,zcz h2⟩
def zjH:DataW Unit→Array Value
  | .agg ds=>(ds.map fun d=>match d with | .lit (.int k n)=>Value.int k n | _=>Value.bool false).toArray
  | _ => #[]
def zaV (w:World) (g:Nat) (d:DataW Unit):World:={w with heap:=w.heap.modify g fun | .cells _ t f=>.cells (zjH d) t f | o=>o}
noncomputable def YF (os:Os):World:=
  zaV (zaV (zaV (World.holding Tryz.prog os ⟨#[],#[],[]⟩) 1 Rows.laid_math_bits_deBruijn32tab) 2 Rows.laid_math_bits_deBruijn64tab) 0 Rows.laid_internal_strconv_uint64pow10
theorem YS (os:Os) (args:Array Value):laidMet Tryz.prog J7 ((YF os).forCall (fun _ _=>0) ⟨#[],args,[]⟩).memory:=
  laidMet_of_run3 8 (by kernel_rfl) (by kernel_rfl) (by kernel_rfl)
end Go.Proofs.YtlpmnmbebkdocaaGreatDoor
namespace Go.Proofs.YtlpmnmbebkdocaaGreatDoor.LTrapShows
open Go.ChangeShapes Go.WideShapes Go.ChangeAt Go.RowKit
set_option linter.unusedVariables false
set_option maxRecDepth 100000
theorem all (ivs:List IV) (h:JQ [(true,Zab.tys)] ivs):APure C0 313 ivs (.bool true):=by
  match ivs,h with
  | [x0],⟨a0,_⟩=>
    obtain ⟨row0,rfl,r0⟩:=a0
    obtain ⟨c,rfl,ok_c⟩:=Zab.opn r0
    exact zbh c true (zbo c ok_c)
theorem own:ownKnob Tryz.prog.godebug=none:=by kernel_rfl
theorem laid:laidOutB Tryz.prog=true:=by kernel_rfl
theorem args:mapO (zag Tryz.prog) Tryz.f6.params.toList=some [(true,Zab.tys)]:=by kernel_rfl
theorem zjI (os:Os) (started:os.Started) (H:Type) (enc:TypeId×Value→H) :
    ReturnsInHanded {} Tryz.checked os 6 .any (fun w args=>(Rows.trapShowsSpec.pre enc Tryz.prog Tryz.f6 [] false w args∧laidMet Tryz.prog J7 w)∧sizedMet enc Tryz.prog Tryz.f6 (OpenSpec.ofChange Rows.trapShowsSpec) false w args) (Rows.trapShowsSpec.post enc Tryz.prog Tryz.f6 false true false false):=by
  refine returnsInHanded_of_change_and (C:=Tryz.checked) (X:=fun w _=>laidMet Tryz.prog J7 w) (fun _ _ _ hh h=>h.of_heap hh) own started (by kernel_rfl) Tryz.func6
    (ChangeSpec.witness_at (enc:=enc) (C:=Tryz.checked) (os:=os) (X:=fun w _=>laidMet Tryz.prog J7 w) false (YF os) #[.agg #[.int .i64 0,.slice none 0 0,.slice none 0 0,.slice none 0 0,.slice none 0 0,.int .i64 0,.slice none 0 0]] 8 rfl (by kernel_rfl) (by kernel_rfl) (by kernel_rfl) (by kernel_rfl) (by kernel_rfl) (YS os _)) ?_
  intro W base args ds gs before hval hW _ hwt hL _
  exact zah (Cx:=C0) (tb:=4) 313 rfl LTrapShows.args rfl (by kernel_rfl) rfl
    (fun ds h=>by match ds,h with | [_],_=>rfl) LTrapShows.laid (by kernel_rfl) LTrapShows.all W (zaU hL) base args ds gs before hval hW hwt
theorem zme:Rows.TrapShowsSaid:=
  OpenClaim.holds_of_wide 6 Tryz.f6 rfl rfl rfl rfl rfl rfl rfl ⟨rfl,rfl,rfl,rfl,rfl⟩ rfl rfl rfl rfl rfl (by kernel_rfl) Tryz.func6 (by kernel_rfl)
    (of_decide_eq_true (by kernel_rfl)) (by unfold Func.isWrapper;first | (rw [if_pos (by decide +kernel)];kernel_rfl) | (rw [if_neg (by decide +kernel)];exact ⟨rfl,rfl⟩))
    (fun os started H enc _=>zjI os started H enc)
theorem holds:Rows.TrapShowsCardSaid:=
  Claim7.holds_tied_plain_at .later [] [.data, .data, .data] true (true, "7bc6b4a7d0776bec5163c6b97d3bd90ad221a013c50c4dd2d862c7360c2f6317") false
    zme (fun _ h=>by cases h) (by kernel_rfl) (fun _ h=>by cases h) trapShows_row_tie rfl ⟨rfl,rfl⟩ (by kernel_rfl) rfl
    (fun f fn hf hfn=>by
      obtain rfl : f = 6 := Option.some.inj ((show Tryz.prog.funcNamed "estoppel/estoppellaw21.TrapShows" = some 6 by kernel_rfl).symm.trans hf) |>.symm
      obtain rfl:fn=Tryz.f6:=(Option.some.inj (Tryz.func6.symm.trans hfn)).symm
      refine ⟨by kernel_rfl,fun j t ht => ?_⟩
      have hall:(Tryz.f6.params.toList.all fun t=>!(Tryz.prog.wantsStandIn t))=true:=by kernel_rfl
      have:=List.all_eq_true.1 hall t (by rw [Array.mem_toList_iff];exact Array.mem_of_getElem? ht)
      have h2:Tryz.prog.wantsStandIn t=false:=by simpa using this
      exact h2)
    (by kernel_rfl)
end Go.Proofs.YtlpmnmbebkdocaaGreatDoor.LTrapShows
namespace Go.Proofs.YtlpmnmbebkdocaaGreatDoor
theorem trapShows_holds:Rows.TrapShowsCardSaid:=LTrapShows.holds
end Go.Proofs.YtlpmnmbebkdocaaGreatDoor
