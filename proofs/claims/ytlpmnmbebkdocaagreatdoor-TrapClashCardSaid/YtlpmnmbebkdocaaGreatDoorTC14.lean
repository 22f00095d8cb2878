/-
  'TrapClash': for every input the call returns true, and each argument reads afterwards as it read before.
  The tables of the library that the rows list: from the row's condition to what the contracts ask; the witness.
  The law 'TrapClash': clauses that clash are never both performed.
  The law 'TrapDead'.
  What the laws of layer 21 ask of a list of findings.
  The fixed example of the laws of layer 21: 'head' returns true. Printed by mkheads.py.
  One of the calls of the fixed example of the laws of layer 21. Printed by mkheads.py.
-/
import Derived.Test.YtlpmnmbebkdocaaGreatDoorTC13
import Derived.Test.YtlpmnmbebkdocaaGreatDoorRows
import Derived.Test.YtlpmnmbebkdocaaGreatDoorTC11
import Derived.LaidLaws
import Derived.LaidSub
import Derived.Deep.DeepLaidRun
import Derived.Lib.LaidTab
import Derived.JoinedOf
import Derived.Test.YtlpmnmbebkdocaaGreatDoorTC06
import Derived.Test.YtlpmnmbebkdocaaGreatDoorTie
import Derived.Test.YtlpmnmbebkdocaaGreatDoorCards
import Derived.SevenTiedAt
namespace Go.Proofs.YtlpmnmbebkdocaaGreatDoor
set_option linter.unusedSimpArgs false
set_option linter.unusedVariables false
set_option maxRecDepth 100000
theorem zjI:qH ({Zao:=1,Zae:=[0],Zav:=[],Zai:=[({kind:=1,Zap:=0,give:=0,to:=(-1),unit:=(-1),lot:=({num:=0,den:=1}:Ratio)}:Zaq)],Zag:=[({kind:=1,Zap:=0,act:=0,need:=1,start:=[],after:=2,Zay:=0,ZaE:=false,final:=true,pause:=(-1),ZaC:=(-1),value:=({num:=0,den:=1}:Ratio),unit:=(-1),to:=(-1),ZaB:=false}:Zan),({kind:=2,Zap:=0,act:=0,need:=1,start:=[],after:=1,Zay:=0,ZaE:=false,final:=true,pause:=(-1),ZaC:=(-1),value:=({num:=0,den:=1}:Ratio),unit:=(-1),to:=(-1),ZaB:=false}:Zan)],Zat:=5,off:=[]}:Zab) ({kind:=4,Zaa:=(-1),clause:=0,other:=1,Zaz:=[]}:Zak)=some false:=vL _ _ _ (by kernel_rfl)
theorem zjJ:qH ({Zao:=1,Zae:=[0],Zav:=[],Zai:=[({kind:=1,Zap:=0,give:=0,to:=(-1),unit:=(-1),lot:=({num:=0,den:=1}:Ratio)}:Zaq)],Zag:=[({kind:=1,Zap:=0,act:=0,need:=1,start:=[],after:=2,Zay:=0,ZaE:=false,final:=true,pause:=(-1),ZaC:=(-1),value:=({num:=0,den:=1}:Ratio),unit:=(-1),to:=(-1),ZaB:=false}:Zan),({kind:=2,Zap:=0,act:=0,need:=1,start:=[],after:=3,Zay:=0,ZaE:=false,final:=true,pause:=(-1),ZaC:=(-1),value:=({num:=0,den:=1}:Ratio),unit:=(-1),to:=(-1),ZaB:=false}:Zan)],Zat:=5,off:=[]}:Zab) ({kind:=2,Zaa:=(-1),clause:=1,other:=(-1),Zaz:=[]}:Zak)=some false:=vL _ _ _ (by kernel_rfl)
noncomputable def e_head21:Option (Bool):=
  (Option.bind (xZ 3) fun r1=>(Option.bind (xZ 1) fun r2=>(Option.bind (xZ 3) fun r3=>(Option.bind (some (([({kind:=1,Zaa:=0,clause:=(-1),other:=(-1),Zaz:=[(-1),(-1)]}:Zak),({kind:=4,Zaa:=(-1),clause:=0,other:=1,Zaz:=[]}:Zak)],0):List Zak×Int)) fun r4=>(Option.bind (some (([],0):List Zak×Int)) fun r5=>(Option.bind (some (([({kind:=2,Zaa:=(-1),clause:=1,other:=(-1),Zaz:=[]}:Zak)],0):List Zak×Int)) fun r6=>(Option.bind (bif (r4.2 == 0) then (Option.bind (vF r4.1 ([({kind:=1,Zaa:=0,clause:=(-1),other:=(-1),Zaz:=[(-1),(-1)]}:Zak),({kind:=4,Zaa:=(-1),clause:=0,other:=1,Zaz:=[]}:Zak)])) fun r7=>(bif r7 then (bif (r5.2 == 0) then (bif ((r5.1.length:Int) == 0) then (bif (r6.2 == 0) then (Option.bind (vF r6.1 ([({kind:=2,Zaa:=(-1),clause:=1,other:=(-1),Zaz:=[]}:Zak)])) fun r8=>some r8) else some false) else some false) else some false) else some false)) else some false) fun v1=>(Option.bind (bif v1 then (Option.bind (some true) fun r9=>(bif r9 then (Option.bind (some true) fun r10=>(bif r10 then (Option.bind (some true) fun r11=>(bif r11 then (Option.bind (some false) fun r12=>(bif r12 then some false else (Option.bind (some false) fun r13=>(bif r13 then some false else (Option.bind (some false) fun r14=>some (!r14)))))) else some false)) else some false)) else some false)) else some false) fun v2=>some v2))))))))
theorem zgs:kq=some true:=by
  have e:kq=e_head21:=by
    unfold kq e_head21
    rw [zjB,zjC,zjD,zjE,zjF,zjG,zjH,zjI,zjJ]
  exact e.trans (show e_head21=some true by kernel_rfl)
end Go.Proofs.YtlpmnmbebkdocaaGreatDoor
namespace Go.Proofs.YtlpmnmbebkdocaaGreatDoor
open Go.RowKit
set_option linter.unusedSimpArgs false
set_option linter.unusedVariables false
set_option maxRecDepth 100000
section
def VL (k p cl:Int) (f:Zak):Bool:=f.kind == k&&(f.Zaa == p&&f.clause == cl)
theorem zeV {α:Type} {l:List α} {p:α→Bool} {b:Bool} (h1:b=true→∃ x∈l,p x=true) (h2:∀ x∈l,p x=true→b=true):l.any p=b:=by
  cases b with
  | true=>exact List.any_eq_true.2 (h1 rfl)
  | false=>
    rw [Bool.eq_false_iff]
    intro h
    obtain ⟨x,hx,hp⟩:=List.any_eq_true.1 h
    cases h2 x hx hp
section
variable {c:Zab} {s0:Zac} {L:List Zac} {l:List Zak}
theorem YB {n:Nat} {f:Zak}:f∈xU L n↔∃ i,i < n∧wh L i=true∧f=jS i:=by
  simp only [xU,List.mem_map,List.mem_filter,List.mem_range]
  constructor
  · rintro ⟨i,⟨h1,h2⟩,rfl⟩;exact ⟨i,h1,h2,rfl⟩
  · rintro ⟨i,h1,h2,rfl⟩;exact ⟨i,⟨h1,h2⟩,rfl⟩
theorem zeW {n:Nat} {f:Zak}:f∈wj c L n↔∃ i,i < n∧wh L i=false∧unB c L i=true∧f=wi i:=by
  simp only [wj,List.mem_map,List.mem_filter,List.mem_range,Bool.and_eq_true,Bool.not_eq_true']
  constructor
  · rintro ⟨i,⟨h1,h2,h3⟩,rfl⟩;exact ⟨i,h1,h2,h3,rfl⟩
  · rintro ⟨i,h1,h2,h3,rfl⟩;exact ⟨i,⟨h1,h2,h3⟩,rfl⟩
theorem FindOk.cases (h:FindOk c s0 L l) {f:Zak} (hf:f∈l) :
    (f.kind=1∧f.clause = -1∧f.other = -1∧∃ p:Nat,(p:Int) < c.Zao∧f.Zaa=(p:Int)∧xT c (p:Int) (atO s0)=false∧PlayT c (p:Int) s0 f.Zaz) ∨
    (∃ i,i < c.Zag.length∧wh L i=true∧f=jS i)∨(∃ i,i < c.Zag.length∧wh L i=false∧unB c L i=true∧f=wi i)∨(∃ a b,ClF c s0 L a b f):=by
  obtain ⟨F,C,rfl,hF,hC⟩:=h
  simp only [List.mem_append] at hf
  rcases hf with ((hf | hf) | hf) | hf
  · obtain ⟨h1,h2,h3,p,h4,h5⟩:=hF.el f hf
    exact .inl ⟨h1,h2,h3,p,by omega,h5⟩
  · exact .inr (.inl (YB.1 hf))
  · exact .inr (.inr (.inl (zeW.1 hf)))
  · obtain ⟨a,b,_,h1⟩:=hC.el f hf
    exact .inr (.inr (.inr ⟨a,b,h1⟩))
theorem FindOk.forced (h:FindOk c s0 L l) {p:Nat} (hp:(p:Int) < c.Zao):l.any (VL 1 (p:Int) (-1))=!xT c (p:Int) (atO s0):=by
  refine zeV (fun hs => ?_) (fun f hf hh => ?_)
  · obtain ⟨F,C,rfl,hF,hC⟩:=h
    obtain ⟨f,h1,h2⟩:=hF.has p (by omega) (by simpa using hs)
    refine ⟨f,by simp [h1],?_⟩
    obtain ⟨g1,g2,g3,_⟩:=hF.el f h1
    simp [VL,g1,g2,h2]
  · simp only [VL,Bool.and_eq_true,beq_iff_eq] at hh
    rcases h.cases hf with ⟨_,_,_,q,_,h5,h6,_⟩ | ⟨i,_,_,rfl⟩ | ⟨i,_,_,_,rfl⟩ | ⟨a,b,h1⟩
    · rw [h5] at hh
      have:q=p:=by omega
      subst this
      rw [h6];rfl
    · exact absurd hh.1 (by first | decide | simp [jS,wi])
    · exact absurd hh.1 (by first | decide | simp [jS,wi])
    · rw [h1.kind] at hh;exact absurd hh.1 (by first | decide | simp [jS,wi])
theorem FindOk.dead (h:FindOk c s0 L l) {i:Nat} (hi:i < c.Zag.length):l.any (VL 2 (-1) (i:Int))=wh L i:=by
  refine zeV (fun hs => ?_) (fun f hf hh => ?_)
  · obtain ⟨F,C,rfl,hF,hC⟩:=h
    have:jS i∈xU L c.Zag.length:=YB.2 ⟨i,hi,hs,rfl⟩
    exact ⟨jS i,by simp [this],by simp [VL,jS]⟩
  · simp only [VL,Bool.and_eq_true,beq_iff_eq] at hh
    rcases h.cases hf with ⟨h1,_⟩ | ⟨j,_,h2,rfl⟩ | ⟨j,_,_,_,rfl⟩ | ⟨a,b,h1⟩
    · rw [h1] at hh;exact absurd hh.1 (by first | decide | simp [jS,wi])
    · have:j=i:=by have:=hh.2.2;simp only [jS] at this;omega
      subst this;exact h2
    · exact absurd hh.1 (by first | decide | simp [jS,wi])
    · rw [h1.kind] at hh;exact absurd hh.1 (by first | decide | simp [jS,wi])
theorem FindOk.len (hc:c.Ok) (hv:VS c s0) (h:FindOk c s0 L l):l.length < 1000000:=by
  have sm:=qr (hc.off.lt (by omega:0 < 8)) hv.cv
  have s1:=sm.Zao
  have s3:=sm.Zag
  obtain ⟨F,C,rfl,hF,hC⟩:=h
  have l1:=Jq L c.Zag.length
  have l2:=Jr c L c.Zag.length
  have h1:=hF.len
  have h2:=hC.len
  have hbig:c.Zag.length*c.Zag.length≤400*400:=Nat.mul_le_mul (by omega) (by omega)
  simp only [List.length_append]
  omega
end
end
theorem zgt {c:Zab} (hc:c.Ok) {q:Zac} (hv:VS c q) (x:Int):∃ r,d_Step c q x=some r∧((r.2=0∧r.1=qj c q x ∧ -1≤x∧x < (c.Zai.length:Int)∧q.day < c.Zat)∨r.2≠0):=by
  by_cases h1 : -1≤x
  · by_cases h2:x < (c.Zai.length:Int)
    · have hd:=hv.day
      by_cases h3:q.day < c.Zat
      · exact ⟨_,(jC hc hv h1 h2 h3).1,.inl ⟨rfl,rfl,h1,h2,h3⟩⟩
      · exact ⟨_,zf4 hc (WU hv) h1 h2 (by omega),.inr (by simp)⟩
    · exact ⟨_,zay hc (.inr (.inr (by omega))),.inr (by simp)⟩
  · exact ⟨_,zay hc (.inr (.inl (by omega))),.inr (by simp)⟩
theorem ZG {c:Zab} {F:Zan→zw→zw} {ms:List zw} {i:Nat} {k:Zan} {m:zw} (hk:c.Zag[i]?=some k) (h:ms[i]?=some m):(ms.mapIdx (atK c F))[i]?=some (F k m):=by
  rw [List.getElem?_mapIdx,h]
  simp [atK,hk]
theorem W7 {act:Int} {k:Zan} {m:zw} (hp:k.pause = -1) (ha:0≤act) (hm:m.ZaA=false):xj act k m=m:=by
  unfold xj
  rw [beq_eq_false_iff_ne.2 (show act≠k.pause by omega)]
  obtain ⟨a,b,c,d,e⟩:=m
  simp only at hm
  subst hm
  cases (qB {Zam:=a,left:=b,got:=c,Zau:=d,ZaA:=false})<;>cases (act == k.ZaC)<;>rfl
def Jn (s:Zac) (a b:Nat) (k:Zan):Prop:=∃ d m,s.Zaj[a]?=some d∧s.Zaj[b]?=some m∧(m.Zam=4∨d.Zam=4∨clK k d m=true)
theorem zhU {c:Zab} (hc:c.Ok) {t:Zac} {x:Int} (hv:VS c t) (h1 : -1≤x) (h2:x < (c.Zai.length:Int)) (hd:t.day < c.Zat) {a b:Nat} {ka kb:Zan} (hka:c.Zag[a]?=some ka) (hkb:c.Zag[b]?=some kb)
    (ho:zaJ ka kb=true) (hn:zcX c=false) (hJ:Jn t a b ka):Jn (qj c t x) a b ka:=by
  obtain ⟨d,m,hda,hmb,hJ⟩:=hJ
  obtain ⟨_,hv',hT,hA⟩:=jC hc hv h1 h2 hd
  have hal:=(List.getElem?_eq_some_iff.1 hka).1
  have hbl:=(List.getElem?_eq_some_iff.1 hkb).1
  obtain ⟨d',hd',_,_⟩:=wI hv' hal
  obtain ⟨m',hm',_,_⟩:=wI hv' hbl
  rcases hJ with h4 | h4 | hcl
  · have:=zaG hc hv h1 h2 hd hmb (by unfold qB;rw [h4];rfl) (by omega)
    exact ⟨d',m,hd',this,.inl h4⟩
  · have:=zaG hc hv h1 h2 hd hda (by unfold qB;rw [h4];rfl) (by omega)
    exact ⟨d,m',this,hm',.inr (.inl h4)⟩
  have hcl0:=hcl
  simp only [clK,Bool.and_eq_true,Bool.or_eq_true,beq_iff_eq,decide_eq_true_eq] at hcl
  obtain ⟨c1,c2,c3,c4⟩:=hcl
  simp only [zaJ,Bool.and_eq_true,beq_iff_eq,Bool.not_eq_true'] at ho
  obtain ⟨o1,o2,_,_,_,_,o7,o8,o9,o10⟩:=ho
  have hof:=hc.off.lt (by omega:0 < 8)
  have kva:=wg hof hv.cv hka
  have kvb:=wg hof hv.cv hkb
  have hrd:qB d=true:=by unfold qB;rcases c1 with e | e<;>rw [e]<;>rfl
  have hrm:qB m=true:=by unfold qB;rw [c2];rfl
  obtain ⟨rd,_⟩:=xt kva (hv.mrk a ka d hka hda) hrd
  obtain ⟨rm,_⟩:=xt kvb (hv.mrk b kb m hkb hmb) hrm
  have hpd:d.ZaA=false:=by
    cases e:d.ZaA with
    | false=>rfl
    | true=>exact absurd o8 (rd.ZaA e)
  have hpm:m.ZaA=false:=by
    cases e:m.ZaA with
    | false=>rfl
    | true=>exact absurd o9 (rm.ZaA e)
  have hds:d.Zam≠0:=by omega
  have hms:m.Zam≠0:=by omega
  have hgr:=kva.Zay
  by_cases e:x = -1
  · obtain ⟨_,_,_,hS⟩:=hT e
    generalize (xv c.off t.day).isSome=fr at hS
    have gD:=ZG (F:=jJ fr) hka hda
    have gM:=ZG (F:=jJ fr) hkb hmb
    have eD:jJ fr ka d=bif (ka.ZaE&&fr) then d else bif d.left - 1 == 0 then (bif d.Zam == 1&&decide (0 < ka.Zay) then {d with Zam:=2,left:=ka.Zay} else wp 4 d) else {d with left:=d.left - 1}:=by
      unfold jJ;rw [hrd,hpd,o1];rfl
    have eM:jJ fr kb m=bif (ka.ZaE&&fr) then m else bif m.left - 1 == 0 then wp 3 m else {m with left:=m.left - 1}:=by
      unfold jJ;rw [hrm,hpm,o2,←o10];rfl
    cases hz:(ka.ZaE&&fr) with
    | true=>
      rw [hz,cond_true] at eD eM
      rw [eD] at gD
      rw [eM] at gM
      exact ⟨d,m,hS.get hal gD hds,hS.get hbl gM hms,.inr (.inr hcl0)⟩
    | false=>
      rw [hz,ZaH] at eD eM
      by_cases hl:d.left=1
      · rw [show (d.left - 1 == 0)=true from beq_iff_eq.2 (by omega),cond_true] at eD
        cases hg:(d.Zam == 1&&decide (0 < ka.Zay)) with
        | false=>
          rw [hg,ZaH] at eD
          rw [eD] at gD
          exact ⟨_,m',hS.get hal gD (by simp [wp]),hm',.inr (.inl rfl)⟩
        | true=>
          rw [hg,cond_true] at eD
          simp only [Bool.and_eq_true,beq_iff_eq,decide_eq_true_eq] at hg
          rw [show (d.Zam == 1)=true from beq_iff_eq.2 hg.1,cond_true] at c4
          rw [show (m.left - 1 == 0)=false from beq_eq_false_iff_ne.2 (by omega),ZaH] at eM
          rw [eD] at gD
          rw [eM] at gM
          refine ⟨_,_,hS.get hal gD (by simp),hS.get hbl gM hms,.inr (.inr ?_)⟩
          simp only [clK,c2,c3]
          have:ka.Zay≤m.left - 1:=by omega
          simp [this]
      · rw [show (d.left - 1 == 0)=false from beq_eq_false_iff_ne.2 (by omega),ZaH] at eD
        have hml:(bif d.Zam == 1 then d.left - 1+ka.Zay else d.left - 1)≤m.left - 1∧m.left - 1≠0:=by
          have:=rd.left
          cases hq:(d.Zam == 1) with
          | true=>rw [hq,cond_true] at c4;rw [cond_true];omega
          | false=>rw [hq,ZaH] at c4;rw [ZaH];omega
        rw [show (m.left - 1 == 0)=false from beq_eq_false_iff_ne.2 hml.2,ZaH] at eM
        rw [eD] at gD
        rw [eM] at gM
        refine ⟨_,_,hS.get hal gD hds,hS.get hbl gM hms,.inr (.inr ?_)⟩
        simp only [clK,Bool.and_eq_true,Bool.or_eq_true,beq_iff_eq,decide_eq_true_eq]
        exact ⟨c1,c2,c3,hml.1⟩
  · obtain ⟨i,hi⟩:∃ i:Nat,x=(i:Int):=⟨x.toNat,by omega⟩
    have hil:i < c.Zai.length:=by omega
    have hnk:(c.Zai[i].kind == 3)=false:=by
      have:=(List.any_eq_false.1 hn) c.Zai[i] (List.getElem_mem hil)
      simpa using this
    rcases hA i c.Zai[i] hi (List.getElem?_eq_getElem hil) with ⟨_,_,e2⟩ | ⟨_,_,_,_,hS⟩
    · rw [e2];exact ⟨d,m,hda,hmb,.inr (.inr hcl0)⟩
    · have gD1:=ZG (F:=xj i) hka hda
      have gM1:=ZG (F:=xj i) hkb hmb
      rw [W7 o8 (by omega) hpd] at gD1
      rw [W7 o9 (by omega) hpm] at gM1
      have gD2:=ZG (F:=ve i (qX t.Zae c.Zai[i])) hka gD1
      have gM2:=ZG (F:=ve i (qX t.Zae c.Zai[i])) hkb gM1
      have hms3:ms3 c i c.Zai[i] t.Zae t.Zaj=ms2 c i c.Zai[i] t.Zae t.Zaj:=by unfold ms3;rw [hnk];rfl
      rw [hms3] at hS
      have eM:ve i (qX t.Zae c.Zai[i]) kb m=bif kb.act == (i:Int)&&m.Zau == qX t.Zae c.Zai[i] then wp 4 m else m:=by
        unfold ve zcR
        rw [hrm,hpm,o2]
        rfl
      have eD:(ka.act == (i:Int)&&d.Zau == qX t.Zae c.Zai[i])=false→ve i (qX t.Zae c.Zai[i]) ka d=d:=fun hq=>by
        unfold ve
        rw [hrd,o1,cond_true]
        show (bif (ka.act == (i:Int)&&d.Zau == qX t.Zae c.Zai[i]) then _ else d)=d
        rw [hq];rfl
      rw [←o7,c3] at eM
      cases hz:(ka.act == (i:Int)&&d.Zau == qX t.Zae c.Zai[i]) with
      | true=>
        rw [hz,cond_true] at eM
        rw [eM] at gM2
        exact ⟨d',_,hd',hS.get hbl gM2 (by simp [wp]),.inl rfl⟩
      | false=>
        rw [hz,ZaH] at eM
        rw [eM] at gM2
        rw [eD hz] at gD2
        exact ⟨d,m,hS.get hal gD2 hds,hS.get hbl gM2 hms,.inr (.inr hcl0)⟩
theorem zkW {a b:Nat} {k:Zan} {s:Zac} (h:Jn s a b k):∃ d m,s.Zaj[a]?=some d∧s.Zaj[b]?=some m∧(d.Zam=1∨d.Zam=2∨d.Zam=4∨m.Zam=4):=by
  obtain ⟨d,m,h1,h2,h3⟩:=h
  refine ⟨d,m,h1,h2,?_⟩
  rcases h3 with h | h | h
  · omega
  · omega
  · simp only [clK,Bool.and_eq_true,Bool.or_eq_true,beq_iff_eq] at h
    omega
theorem zbm (c:Zab) (fu:List Int) (hc:Zab.Ok c) (hfu:LOk 8 (fun x:Int=>InK .i64 x) fu):Zd c fu=some true:=by
  refine Ret.eq ?_
  unfold Zd
  refine Ret.bindE zgs ?_
  refine Ret.bind (P:=fun b:Bool=>b=true∨(b=false∧fu.length≤40)) ?_ ?_
  · refine Ret.bindE (zjp hc) ?_
    refine Ret.ite (fun _=>Ret.some ?_) (fun _=>Ret.some (.inl rfl))
    by_cases h:40 < (fu.length:Int)
    · exact .inl (decide_eq_true h)
    · exact .inr ⟨decide_eq_false h,by omega⟩
  rintro b (rfl | ⟨rfl,hfl⟩)
  · exact Ret.ite (fun _=>Ret.some rfl) (fun h=>by cases h)
  refine Ret.ite (fun h=>by cases h) (fun _ => ?_)
  refine Ret.bind (zgm hc) ?_
  rintro ⟨l,e⟩ hF
  rcases hF with ⟨he,hl⟩ | ⟨he,s0,L,hst,hvs,hr,h,hB,hF⟩
  · simp only at he
    rw [show (((l,e):List Zak×Int).2 == 0)=false from beq_eq_false_iff_ne.2 he]
    exact Ret.some rfl
  simp only at he hF
  subst he
  have hll:=hF.len hc hvs
  refine Ret.ite (fun _ => ?_) (fun h=>by cases h)
  refine Ret.bind (P:=fun o:Unit ⊕ Unit=>o=.inl ()) (Ret.forL (n:=l.length) (fun _ _=>True) (by omega) trivial (fun i _ hi _ => ?_) (fun _ _=>rfl)) (by rintro _ rfl;exact Ret.some rfl)
  refine Ret.bind (P:=fun o:Unit ⊕ Unit=>o=.inl ()) ?_ (by rintro _ rfl;exact Ret.some trivial)
  have hix:=zl (List.getElem?_eq_getElem hi)
  refine Ret.bindE (v:=l[i]) hix ?_
  refine Ret.ite (fun h4 => ?_) (fun _=>Ret.some rfl)
  have h4:=beq_iff_eq.1 h4
  rcases hF.cases (List.getElem_mem hi) with ⟨g1,_⟩ | ⟨j,_,_,g1⟩ | ⟨j,_,_,_,g1⟩ | ⟨a,b,hC⟩
  · rw [g1] at h4;exact absurd h4 (by decide)
  · rw [g1] at h4;exact absurd h4 (by simp [jS])
  · rw [g1] at h4;exact absurd h4 (by simp [wi])
  obtain ⟨_,_,g3,g4,ha,hb,ho,k,q,hk,hcl,_,ht,hq,hdp⟩:=hC
  generalize hfe:l[i]=f at hix g3 g4 ht hq hdp
  have hka:=List.getElem?_eq_getElem ha
  have hkb:=List.getElem?_eq_getElem hb
  have hoo:zaJ c.Zag[a] c.Zag[b]=true∧zcX c=false:=by
    unfold VF at ho;rw [hka,hkb] at ho
    simpa only [Bool.and_eq_true,Bool.not_eq_true'] using ho
  have hmax:f.Zaz.length≤1500:=by
    have hle:∀ {m d:Nat},Dp c L m d→d≤m:=by
      intro m d hd
      induction hd with
      | zero=>omega
      | next h0 _ hn _ ih=>omega
    have:=hle hdp
    have:=(List.getElem?_eq_some_iff.1 hk).1
    have:=h.inv.len
    omega
  have hvq:=ht.vsl hc hvs
  have hJ0:Jn (stF c s0 f.Zaz) a b c.Zag[a]:=by
    rw [hq]
    rw [hq] at hvq
    obtain ⟨d,d1,_,_⟩:=wI hvq ha
    obtain ⟨m,m1,_,_⟩:=wI hvq hb
    refine ⟨d,m,d1,m1,.inr (.inr ?_)⟩
    unfold Jp at hcl
    rw [hka,d1,m1] at hcl
    exact hcl
  refine Ret.bindE hst ?_
  refine Ret.bind (P:=fun v:Int×Int×List Int×List Bool×List zw=>v=(0,Jg (stF c s0 f.Zaz))) ?_ ?_
  · refine Ret.bind (P:=fun v:Int×Int×List Int×List Bool×List zw=>v=(0,Jg (stF c s0 f.Zaz))) ?_ (fun v hv=>Ret.some hv)
    refine Ret.iter (fun s:Int×Int×Int×List Int×List Bool×List zw=>∃ k:Nat,k≤f.Zaz.length∧s=(0,(k:Int),Jg (stF c s0 (f.Zaz.take k)))) (fun s=>((f.Zaz.length:Int) - s.2.1).toNat) ⟨0,by omega,by rw [List.take_zero];rfl⟩ ?_
    rintro _ ⟨k,hk,rfl⟩
    refine Ret.bindE (v:=decide ((k:Int) < f.Zaz.length)) (by
      show (Option.bind (ze l (i:Int)) fun e2=>(bif decide ((k:Int) < (e2.Zaz.length:Int)) then some true else some false))=_
      rw [hix,ZaI];cases decide ((k:Int) < f.Zaz.length)<;>rfl) ?_
    refine Ret.ite (fun hlt => ?_) (fun hge => ?_)
    · have hlt:=of_decide_eq_true hlt
      have hkl:k < f.Zaz.length:=by omega
      refine Ret.bindE (v:=f) hix ?_
      refine Ret.bindE (v:=(f.Zaz)[k]) (zl (List.getElem?_eq_getElem hkl)) ?_
      obtain ⟨g1,g2,g3,_⟩:=ht.step k hkl
      have hs:=(jC hc (ht.vs hc hvs k hk) g2 g3 g1).1
      refine Ret.bindE (v:=(qj c (stF c s0 (f.Zaz.take k)) (f.Zaz)[k],0)) hs ?_
      refine Ret.some ⟨⟨k+1,hkl,?_⟩,?_⟩
      · show ((0:Int),IntKind.i64.wrap ((k:Int)+1),Jg _)=_
        rw [zY (by omega) (by omega),List.take_succ_eq_append_getElem hkl,Qm];rfl
      · show ((f.Zaz.length:Int) - IntKind.i64.wrap ((k:Int)+1)).toNat < ((f.Zaz.length:Int) - (k:Int)).toNat
        rw [zY (by omega) (by omega)];omega
    · have hge:=of_decide_eq_false hge
      have:k=f.Zaz.length:=by omega
      subst this
      rw [List.take_length]
      exact Ret.some rfl
  rintro _ rfl
  refine Ret.ite (fun _ => ?_) (fun h=>by cases h)
  refine Ret.bind (P:=fun o:(Int×List Int×List Bool×List zw) ⊕ (Unit ⊕ Unit)=>(∃ y,o=.inl y)∨o=.inr (.inl ())) (Ret.forL (fun _ s=>∃ t,VS c t∧Jn t a b c.Zag[a]∧s=Jg t) (by omega) ⟨_,hvq,hJ0,rfl⟩ (fun j s hj hs => ?_) (fun s _=>.inl ⟨s,rfl⟩)) ?_
  · obtain ⟨t,hvt,hJ,rfl⟩:=hs
    refine Ret.bindE (v:=fu[j]) (zl (List.getElem?_eq_getElem hj)) ?_
    obtain ⟨r,hr,hcase⟩:=zgt hc hvt fu[j]
    refine Ret.bindE (v:=r) hr ?_
    rcases hcase with ⟨q0,q1,q2,q3,q4⟩ | hne
    · rw [show (r.2 == 0)=true from beq_iff_eq.2 q0,cond_true]
      have hvr:VS c r.1:=by rw [q1];exact (jC hc hvt q2 q3 q4).2.1
      have hJr:Jn r.1 a b c.Zag[a]:=by rw [q1];exact zhU hc hvt q2 q3 q4 hka hkb hoo.1 hoo.2 hJ
      obtain ⟨d,m,d1,m1,hd⟩:=zkW hJr
      refine Ret.bindE (v:=f) hix ?_
      refine Ret.bindE (v:=d) (by rw [g3];exact zl d1) ?_
      refine Ret.bindE (v:=m) (by rw [g4];exact zl m1) ?_
      refine Ret.bindE (v:=false) ?_ ?_
      · by_cases e1:d.Zam=1
        · rw [e1];rfl
        · by_cases e2:d.Zam=2
          · rw [e2];rfl
          · by_cases e4:d.Zam=4
            · rw [e4];rfl
            · have:m.Zam=4:=by omega
              rw [beq_eq_false_iff_ne.2 e1,beq_eq_false_iff_ne.2 e2,beq_eq_false_iff_ne.2 e4,this];rfl
      exact Ret.ite (fun h=>by cases h) (fun _=>Ret.some ⟨r.1,hvr,hJr,rfl⟩)
    · rw [show (r.2 == 0)=false from beq_eq_false_iff_ne.2 hne,ZaH]
      exact Ret.some (.inr rfl)
  · rintro o (⟨y,rfl⟩ | rfl)
    · exact Ret.some rfl
    · exact Ret.some rfl
end Go.Proofs.YtlpmnmbebkdocaaGreatDoor
namespace Go.Proofs.YtlpmnmbebkdocaaGreatDoor
open Go.ChangeShapes Go.WideShapes Go.RowKit
set_option maxRecDepth 100000
abbrev J4 : List (String × DataW Unit) := [("math/bits.deBruijn32tab", Rows.laid_math_bits_deBruijn32tab), ("math/bits.deBruijn64tab", Rows.laid_math_bits_deBruijn64tab), ("internal/strconv.uint64pow10", Rows.laid_internal_strconv_uint64pow10)]
theorem zgu:(J4.filter fun x=>x.1 == xP)=[(xP,Lib.tabData .u64 Lib.pow10Tab)]:=by kernel_rfl
theorem zaS {W:World} (h:laidMet Tryz.prog J4 W):C0.tabs.p W∧C0.tabs.n≤W.heap.size:=by
  have h1:=h.filter (fun x=>x.1 == xP)
  rw [zgu] at h1
  have h2:C0.tabs.p W:=Lib.tabIs_of_head (g:=0) (t:=((Tryz.prog.globals[0]?).map (·.type)).getD 0) (e:=193) (n:=20)
    (by kernel_rfl) (by kernel_rfl) (by kernel_rfl) (by kernel_rfl) (by kernel_rfl) (by kernel_rfl) h1
  exact ⟨h2,zcw h2⟩
def zjK:DataW Unit→Array Value
  | .agg ds=>(ds.map fun d=>match d with | .lit (.int k n)=>Value.int k n | _=>Value.bool false).toArray
  | _ => #[]
def zaT (w:World) (g:Nat) (d:DataW Unit):World:={w with heap:=w.heap.modify g fun | .cells _ t f=>.cells (zjK d) t f | o=>o}
noncomputable def YC (os:Os):World:=
  zaT (zaT (zaT (World.holding Tryz.prog os ⟨#[],#[],[]⟩) 1 Rows.laid_math_bits_deBruijn32tab) 2 Rows.laid_math_bits_deBruijn64tab) 0 Rows.laid_internal_strconv_uint64pow10
theorem YP (os:Os) (args:Array Value):laidMet Tryz.prog J4 ((YC os).forCall (fun _ _=>0) ⟨#[],args,[]⟩).memory:=
  laidMet_of_run3 8 (by kernel_rfl) (by kernel_rfl) (by kernel_rfl)
end Go.Proofs.YtlpmnmbebkdocaaGreatDoor
namespace Go.Proofs.YtlpmnmbebkdocaaGreatDoor.LTrapClash
open Go.ChangeShapes Go.WideShapes Go.ChangeAt Go.RowKit
set_option linter.unusedVariables false
set_option maxRecDepth 100000
theorem all (ivs:List IV) (h:JM [(true,Zab.tys),(false,[.slice 8 [.int .i64]])] ivs):APure C0 309 ivs (.bool true):=by
  match ivs,h with
  | [x0,x1],⟨a0,a1,_⟩=>
    obtain ⟨row0,rfl,r0⟩:=a0
    obtain ⟨c,rfl,ok_c⟩:=Zab.opn r0
    obtain ⟨c1,_,e1,k1,n1⟩:=zf a1
    cases e1
    obtain ⟨further,rfl,ok_further⟩:=qc vq k1
    exact zbf c further true (zbm c further ok_c ok_further)
theorem own:ownKnob Tryz.prog.godebug=none:=by kernel_rfl
theorem laid:laidOutB Tryz.prog=true:=by kernel_rfl
theorem args:mapO (zac Tryz.prog) Tryz.f8.params.toList=some [(true,Zab.tys),(false,[.slice 8 [.int .i64]])]:=by kernel_rfl
theorem zjL (os:Os) (started:os.Started) (H:Type) (enc:TypeId×Value→H) :
    ReturnsInHanded {} Tryz.checked os 8 .any (fun w args=>(Rows.trapClashSpec.pre enc Tryz.prog Tryz.f8 [] false w args∧laidMet Tryz.prog J4 w)∧sizedMet enc Tryz.prog Tryz.f8 (OpenSpec.ofChange Rows.trapClashSpec) false w args) (Rows.trapClashSpec.post enc Tryz.prog Tryz.f8 false true false false):=by
  refine returnsInHanded_of_change_and (C:=Tryz.checked) (X:=fun w _=>laidMet Tryz.prog J4 w) (fun _ _ _ hh h=>h.of_heap hh) own started (by kernel_rfl) Tryz.func8
    (ChangeSpec.witness_at (enc:=enc) (C:=Tryz.checked) (os:=os) (X:=fun w _=>laidMet Tryz.prog J4 w) false (YC os) #[.agg #[.int .i64 0,.slice none 0 0,.slice none 0 0,.slice none 0 0,.slice none 0 0,.int .i64 0,.slice none 0 0],.slice none 0 0] 8 rfl (by kernel_rfl) (by kernel_rfl) (by kernel_rfl) (by kernel_rfl) (by kernel_rfl) (YP os _)) ?_
  intro W base args ds gs before hval hW _ hwt hL _
  exact zad (Cx:=C0) (tb:=4) 309 rfl LTrapClash.args rfl (by kernel_rfl) rfl
    (fun ds h=>by match ds,h with | [_,_],_=>rfl) LTrapClash.laid (by kernel_rfl) LTrapClash.all W (zaS hL) base args ds gs before hval hW hwt
theorem zmi:Rows.TrapClashSaid:=
  OpenClaim.holds_of_wide 8 Tryz.f8 rfl rfl rfl rfl rfl rfl rfl ⟨rfl,rfl,rfl,rfl,rfl⟩ rfl rfl rfl rfl rfl (by kernel_rfl) Tryz.func8 (by kernel_rfl)
    (of_decide_eq_true (by kernel_rfl)) (by unfold Func.isWrapper;first | (rw [if_pos (by decide +kernel)];kernel_rfl) | (rw [if_neg (by decide +kernel)];exact ⟨rfl,rfl⟩))
    (fun os started H enc _=>zjL os started H enc)
theorem holds:Rows.TrapClashCardSaid:=
  Claim7.holds_tied_plain_at .later [] [.data, .data, .data] true (true, "7bc6b4a7d0776bec5163c6b97d3bd90ad221a013c50c4dd2d862c7360c2f6317") false
    zmi (fun _ h=>by cases h) (by kernel_rfl) (fun _ h=>by cases h) trapClash_row_tie rfl ⟨rfl,rfl⟩ (by kernel_rfl) rfl
    (fun f fn hf hfn=>by
      obtain rfl : f = 8 := Option.some.inj ((show Tryz.prog.funcNamed "estoppel/estoppellaw21.TrapClash" = some 8 by kernel_rfl).symm.trans hf) |>.symm
      obtain rfl:fn=Tryz.f8:=(Option.some.inj (Tryz.func8.symm.trans hfn)).symm
      refine ⟨by kernel_rfl,fun j t ht => ?_⟩
      have hall:(Tryz.f8.params.toList.all fun t=>!(Tryz.prog.wantsStandIn t))=true:=by kernel_rfl
      have:=List.all_eq_true.1 hall t (by rw [Array.mem_toList_iff];exact Array.mem_of_getElem? ht)
      have h2:Tryz.prog.wantsStandIn t=false:=by simpa using this
      exact h2)
    (by kernel_rfl)
end Go.Proofs.YtlpmnmbebkdocaaGreatDoor.LTrapClash
namespace Go.Proofs.YtlpmnmbebkdocaaGreatDoor
theorem trapClash_holds:Rows.TrapClashCardSaid:=LTrapClash.holds
end Go.Proofs.YtlpmnmbebkdocaaGreatDoor
