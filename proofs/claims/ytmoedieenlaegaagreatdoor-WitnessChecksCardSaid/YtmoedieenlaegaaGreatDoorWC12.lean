/-
  What 'system.Valid' comes to.
  What is known of a valid contract; what 'start' does.
  What 'system.Step' does.
  What an act does.
  'system.Step': what it returns.
  The reference's contract.Valid agrees with the program's.
  'arena.Moves' and 'arena.After': what they return.
  'arena.After'; 'Few', 'Tame', 'Doer'.
  The text of a position tells it from every other position of the same contract.
-/
import Derived.Test.YtmoedieenlaegaaGreatDoorWC11
namespace Go.Proofs.YtmoedieenlaegaaGreatDoor
open Go.RowKit
set_option linter.unusedSimpArgs false
set_option linter.unusedVariables false
set_option maxRecDepth 100000
theorem jh {f:Nat→Unit→Option (Unit ⊕ Unit)} {n:Nat} (p:Nat→Bool) (hn:n < 4611686018427387904) (h:∀ j,j < n→f j ()=some (bif p j then .inl () else .inr ())) :
    forR (n:Int) f ()=some (bif (List.range n).all p then .inl () else .inr ()):=by
  rw [jD p (fun _=>()) hn h]
  cases hf:(List.range n).find? (fun j=>!p j) with
  | none=>
    have:(List.range n).all p=true:=List.all_eq_true.2 fun j hj=>wq hf j (List.mem_range.1 hj)
    rw [this];rfl
  | some k=>
    obtain ⟨h1,h2,_⟩:=wt hf
    have:(List.range n).all p=false:=by
      rw [Bool.eq_false_iff]
      intro h
      have:=List.all_eq_true.1 h k (List.mem_range.2 h1)
      rw [h2] at this;cases this
    rw [this];rfl
theorem xk {α ρ:Type} {f:Nat→List α→Option (List α ⊕ ρ)} (s0:List α) (F:Nat→α→α) (hl:s0.length < 4611686018427387904)
    (h:∀ (i:Nat) (m:α) (s:List α),s0[i]?=some m→s.length=s0.length→s[i]?=some m→f i s=some (.inl (s.set i (F i m)))) :
    forR (s0.length:Int) f s0=some (.inl (s0.mapIdx F)):=by
  obtain ⟨o,h1,h2⟩:=xJ (n:=s0.length) (s0:=s0) (f:=f) (fun i s=>s.length=s0.length∧∀ j,s[j]?=if j < i then (s0[j]?).map (F j) else s0[j]?) (fun _=>False) hl ⟨rfl,fun j=>by simp⟩ (fun i s hi ⟨a,b⟩=>by
    have hs:s[i]?=some s0[i]:=by rw [b i,if_neg (by omega),List.getElem?_eq_getElem hi]
    refine ⟨_,h i s0[i] s (List.getElem?_eq_getElem hi) a hs,by simpa using a,fun j => ?_⟩
    rw [List.getElem?_set]
    by_cases hij:i=j
    · subst hij
      rw [if_pos rfl,if_pos (by omega),if_pos (by omega),List.getElem?_eq_getElem hi];rfl
    · rw [if_neg hij,b j]
      by_cases h3:j < i
      · rw [if_pos h3,if_pos (by omega)]
      · rw [if_neg h3,if_neg (by omega)])
  rw [h1]
  cases o with
  | inr r=>exact h2.elim
  | inl s=>
    obtain ⟨a,b⟩:=h2
    congr 2
    refine List.ext_getElem? fun j => ?_
    rw [b j,List.getElem?_mapIdx]
    by_cases hj:j < s0.length
    · rw [if_pos hj]
    · rw [if_neg hj,List.getElem?_eq_none (by omega)];rfl
def qW (Zag:List zw) (s:CondT):Bool:=match ze Zag s.clause with
  | some m=>bif s.is == 1 then !(m.Zak == 0) else bif s.is == 2 then m.Zak == 3 else bif s.is == 3 then m.Zak == 4 else bif s.is == 4 then m.Zak == 5 else false
  | none=>false
def qo (ks:List Zan) (Zag:List zw) (i:Nat):Bool:=match ks[i]?,Zag[i]? with
  | some k,some m=>(m.Zak == 0 && !k.waived)&&k.start.all (qW Zag)
  | _,_=>false
def vE (Zal:Int) (k:Zan) (m:zw):Bool:=
  !(k.waived||(decide (m.left < 1)||(m.Zat&&k.pause == -1)))&&(((m.got == 0)||(k.kind == 1 && !(decide (m.got < 0)||decide (k.need≤m.got)))) &&
    (bif k.kind == 4 then m.Zaq == -1 else decide (0≤m.Zaq)&&decide (m.Zaq < Zal)))
def WN (m:zw):Bool:=(m.Zak == 0)&&((m.left == 0)&&((m.got == 0)&&((m.Zaq == (-1))&&((m.Zat == false)&&true))))
def zal (Zal:Int) (m:zw):Bool:=(m.left == 0)&&(decide (0≤m.got)&&(decide (m.got≤9)&&(decide ((-1)≤m.Zaq)&&(decide (m.Zaq < Zal) && !m.Zat))))
def qy (Zal:Int) (k:Zan) (m:zw):Bool:=
  bif m.Zak == 0 then !k.waived&&WN m else bif m.Zak == 1 then decide (m.left≤k.after)&&vE Zal k m
  else bif m.Zak == 2 then k.kind == 1&&(decide (m.left≤k.ZaA)&&vE Zal k m) else (m.Zak == 3||(m.Zak == 4||m.Zak == 5))&&zal Zal m
theorem zc3 (c:Zaa) (k:Zan) (m:zw):wH c k m=some (vE c.Zal k m):=by
  simp only [wH,vE,zh,ZaT]
  cases k.waived<;>cases decide (m.left < 1)<;>cases m.Zat<;>cases (k.pause == -1)<;>cases (m.got == 0)<;>cases (k.kind == 1)<;>cases decide (m.got < 0)<;>cases decide (k.need≤m.got)<;>cases (k.kind == 4)<;>cases decide (0≤m.Zaq)<;>rfl
theorem zbd (c:Zaa) (i:Nat) (k:Zan) (m:zw) (hk:c.Zaf[i]?=some k):vZ c i m=some (qy c.Zal k m):=by
  unfold vZ
  rw [zD hk]
  simp only [ZaT,zc3,zh,qy,WN,zal]
  cases (m.Zak == 0)
  · cases (m.Zak == 1)
    · cases (m.Zak == 2)
      · cases (m.Zak == 3)<;>cases (m.Zak == 4)<;>cases (m.Zak == 5)<;>cases (m.left == 0)<;>cases decide (0≤m.got)<;>cases decide (m.got≤9)<;>cases decide ((-1)≤m.Zaq)<;>cases decide (m.Zaq < c.Zal)<;>rfl
      · cases (k.kind == 1)<;>cases decide (m.left≤k.ZaA)<;>rfl
    · cases decide (m.left≤k.after)<;>rfl
  · cases k.waived<;>rfl
theorem zbH (c:Zaa) (s:Zao) (i:Nat) (k:Zan) (m:zw) (hk:c.Zaf[i]?=some k) (hm:s.Zag[i]?=some m) (hst:k.start.length < 4611686018427387904)
    (hc:∀ x∈k.start,0≤x.clause∧x.clause < s.Zag.length):vt c s i=some (qo c.Zaf s.Zag i):=by
  unfold vt qo
  rw [zD hm,zD hk,hk,hm]
  simp only [ZaT]
  rw [qR (l:=k.start) (qW s.Zag) hst (fun j hj=>by
    obtain ⟨h0,h1⟩:=hc _ (List.getElem_mem hj)
    obtain ⟨h2,h3⟩:=qm h0 h1
    simp only [zz,List.getElem?_eq_getElem hj,ZaT,h3,qW,zh])]
  simp only [ZaT,zh]
  cases (m.Zak == 0)<;>cases k.waived<;>cases k.start.all (qW s.Zag)<;>rfl
def yG (Zaj:List Zar) (used:List Bool) (i:Nat):Bool:=match Zaj[i]?,used[i]? with
  | some a,some u=>!(u&&a.kind == 1)
  | _,_=>false
def xV (c:Zaa) (Zag:List zw) (i:Nat):Bool:=match c.Zaf[i]?,Zag[i]? with
  | some k,some m=>qy c.Zal k m && !qo c.Zaf Zag i
  | _,_=>false
noncomputable def vsB (c:Zaa) (s:Zao):Bool:=
  ((z7 c).1 == 0)&&((!(decide (s.day < 0))&&(!(decide (c.Zas < s.day))&&((s.Zad.length:Int) == c.Zad.length&&((s.used.length:Int) == c.Zaj.length&&(s.Zag.length:Int) == c.Zaf.length)))) &&
    (x9 c.Zal s.Zad&&((List.range s.used.length).all (yG c.Zaj s.used)&&(List.range s.Zag.length).all (xV c s.Zag))))
theorem Qx (c:Zaa) (s:Zao) (hc:c.Ok):q5 c s=some (vsB c s):=by
  unfold q5 vsB
  rw [hc.valid]
  simp only [ZaT]
  cases hv:((z7 c).1 == 0) with
  | false=>rfl
  | true=>
    have sm:=qx (hc.off.lt (by omega)) (beq_iff_eq.1 hv)
    simp only [ZaR,zh,ZaT,ZaK]
    cases h1:decide (s.day < 0)<;>cases h2:decide (c.Zas < s.day)<;>cases h3:((s.Zad.length:Int) == c.Zad.length)<;>cases h4:((s.used.length:Int) == c.Zaj.length)<;>cases h5:((s.Zag.length:Int) == c.Zaf.length)<;>try rfl
    simp only [ZaR,ZaS,ZaI,ZaJ,ZaK]
    have e3:=beq_iff_eq.1 h3
    have e4:=beq_iff_eq.1 h4
    have e5:=beq_iff_eq.1 h5
    have:=sm.Zad
    have:=sm.Zaj
    have:=sm.Zaf
    rw [qR (l:=s.Zad) (fun h=>decide (0≤h)&&decide (h < c.Zal)) (by omega) (fun j hj=>by
      simp only [zz,List.getElem?_eq_getElem hj,ZaT,zh]
      generalize s.Zad[j]=h
      by_cases a:h < 0
      · have b:¬ 0≤h:=by omega
        simp [a,b]
      · have b:0≤h:=by omega
        by_cases d:h < c.Zal
        · have d':¬ c.Zal≤h:=by omega
          simp [a,b,d,d']
        · have d':c.Zal≤h:=by omega
          simp [a,b,d,d'])]
    rw [jh (n:=s.used.length) (yG c.Zaj s.used) (by omega) (fun j hj=>by
      have hj':j < c.Zaj.length:=by omega
      simp only [zz,List.getElem?_eq_getElem hj,List.getElem?_eq_getElem hj',ZaT,zh,yG]
      cases s.used[j]<;>cases (c.Zaj[j].kind == 1)<;>rfl)]
    rw [jh (n:=s.Zag.length) (xV c s.Zag) (by omega) (fun j hj=>by
      have hj':j < c.Zaf.length:=by omega
      have hk:=List.getElem?_eq_getElem hj'
      have hm:=List.getElem?_eq_getElem hj
      simp only [zz,hm,ZaT]
      rw [zbd c j _ _ hk,zbH c s j _ _ hk hm (by have:=sm.start _ (List.getElem_mem hj');omega) (fun x hx=>by have:=sm.cond j _ hk x hx;omega)]
      simp only [ZaT,xV,hk,hm]
      cases qy c.Zal c.Zaf[j] s.Zag[j]<;>cases qo c.Zaf s.Zag j<;>rfl)]
    simp only [x9,ZaT]
    cases s.Zad.all (fun h=>decide (0≤h)&&decide (h < c.Zal))<;>cases (List.range s.used.length).all (yG c.Zaj s.used)<;>cases (List.range s.Zag.length).all (xV c s.Zag)<;>rfl
structure VS (c:Zaa) (s:Zao):Prop where
  cv:(z7 c).1=0
  day:0≤s.day∧s.day≤c.Zas
  lh:s.Zad.length=c.Zad.length
  lu:s.used.length=c.Zaj.length
  lm:s.Zag.length=c.Zaf.length
  hold:∀ h∈s.Zad,0≤h∧h < c.Zal
  used:∀ (i:Nat) (a:Zar),c.Zaj[i]?=some a→s.used[i]?=some true→a.kind≠1
  mrk:∀ (i:Nat) (k:Zan) (m:zw),c.Zaf[i]?=some k→s.Zag[i]?=some m→qy c.Zal k m=true
  rdy:∀ i,i < c.Zaf.length→qo c.Zaf s.Zag i=false
theorem zgY {c:Zaa} {s:Zao} (h:vsB c s=true):VS c s:=by
  simp only [vsB,Bool.and_eq_true,Bool.not_eq_true',decide_eq_false_iff_not,beq_iff_eq,List.all_eq_true,List.mem_range,x9,decide_eq_true_eq] at h
  obtain ⟨h1,⟨h2,h3,h4,h5,h6⟩,h7,h8,h9⟩:=h
  refine ⟨h1,⟨by omega,by omega⟩,by omega,by omega,by omega,fun x hx=>h7 x hx,fun i a ha hu hk => ?_,fun i k m hk hm => ?_,fun i hi => ?_⟩
  · have:=h8 i (by have:=(List.getElem?_eq_some_iff.1 hu).1;exact this)
    simp only [yG,ha,hu,hk] at this
    cases this
  · have:=h9 i (List.getElem?_eq_some_iff.1 hm).1
    simp only [xV,hk,hm,Bool.and_eq_true] at this
    exact this.1
  · have hi':i < s.Zag.length:=by omega
    have:=h9 i hi'
    simp only [xV,List.getElem?_eq_getElem hi,List.getElem?_eq_getElem hi',Bool.and_eq_true,Bool.not_eq_true'] at this
    exact this.2
theorem ky {c:Zaa} {s:Zao} (h:VS c s):vsB c s=true:=by
  have hd:=h.day
  have h4:=h.lh
  have h5:=h.lu
  have h6:=h.lm
  simp only [vsB,Bool.and_eq_true,Bool.not_eq_true',decide_eq_false_iff_not,beq_iff_eq,List.all_eq_true,List.mem_range,x9,decide_eq_true_eq]
  refine ⟨h.cv,⟨by omega,by omega,by omega,by omega,by omega⟩,fun x hx=>h.hold x hx,fun i hi => ?_,fun i hi => ?_⟩
  · have hi':i < c.Zaj.length:=by omega
    have ha:=List.getElem?_eq_getElem hi'
    have hu:=List.getElem?_eq_getElem hi
    simp only [yG,ha,hu]
    cases hq:s.used[i] with
    | false=>rfl
    | true=>
      have:=h.used i _ ha (by rw [hu,hq])
      simp [this]
  · have hi':i < c.Zaf.length:=by omega
    have ha:=List.getElem?_eq_getElem hi'
    have hu:=List.getElem?_eq_getElem hi
    simp only [xV,ha,hu,Bool.and_eq_true,Bool.not_eq_true']
    exact ⟨h.mrk i _ _ ha hu,h.rdy i hi'⟩
structure KV (c:Zaa) (i:Nat) (k:Zan):Prop where
  act:0≤k.act∧k.act < c.Zaj.length
  after:1≤k.after∧k.after≤400
  kind:k.kind=1∨k.kind=2∨k.kind=3∨k.kind=4
  Zax:k.kind=4∨(0≤k.Zax∧k.Zax < c.Zad.length)
  need:1≤k.need∧k.need≤9
  ZaA:0≤k.ZaA∧k.ZaA≤400
  start:k.start.length≤8
  cond:∀ s∈k.start,0≤s.clause∧s.clause < c.Zaf.length
  pause:(k.pause = -1∧k.ZaG = -1)∨(j8 c.Zaj k.pause=true∧j8 c.Zaj k.ZaG=true)
theorem jy {c:Zaa} (ho:c.off.length < 4611686018427387904) (h:(z7 c).1=0) {i:Nat} {k:Zan} (hk:c.Zaf[i]?=some k):KV c i k:=by
  have sm:=qx ho h
  obtain ⟨_,_,h3,_⟩:=yu h
  have:=h3 i (List.getElem?_eq_some_iff.1 hk).1
  simp only [clB,hk,xj,Bool.and_eq_true,Bool.not_eq_true',decide_eq_false_iff_not] at this
  obtain ⟨⟨a1,a2,a3,a4⟩,⟨a5,a6⟩,a7,a8,_⟩:=this
  have hkd:(k.kind=1∨k.kind=2∨k.kind=3∨k.kind=4)∧(k.kind=4∨(0≤k.Zax∧k.Zax < c.Zad.length))∧(1≤k.need∧k.need≤9)∧(0≤k.ZaA∧k.ZaA≤400):=by
    unfold JY at a5
    cases h4:(k.kind == 4) with
    | true=>
      rw [h4] at a5
      simp only [ZaR,Bool.and_eq_true,beq_iff_eq] at a5
      have:=beq_iff_eq.1 h4
      omega
    | false=>
      rw [h4] at a5
      simp only [ZaS,Bool.and_eq_true,jg,decide_eq_true_eq] at a5
      obtain ⟨⟨b1,_⟩,b2⟩:=a5
      cases h1:(k.kind == 1) with
      | true=>
        rw [h1] at b2
        simp only [ZaR,Bool.and_eq_true,decide_eq_true_eq] at b2
        have:=beq_iff_eq.1 h1
        omega
      | false=>
        rw [h1] at b2
        cases h2:(k.kind == 2) with
        | true=>
          rw [h2] at b2
          simp only [ZaR,ZaS,Bool.and_eq_true,beq_iff_eq] at b2
          have:=beq_iff_eq.1 h2
          omega
        | false=>
          rw [h2] at b2
          simp only [ZaS,Bool.and_eq_true,beq_iff_eq] at b2
          omega
  refine ⟨⟨by omega,by omega⟩,⟨by omega,by omega⟩,hkd.1,hkd.2.1,hkd.2.2.1,hkd.2.2.2,by omega,fun s hs => ?_,?_⟩
  · have:=sm.cond i k hk s hs;omega
  · simp only [wR,Bool.or_eq_true,Bool.and_eq_true,beq_iff_eq,Bool.not_eq_true'] at a8
    rcases a8 with h | h
    · exact .inl h
    · exact .inr h.2
structure AV2 (c:Zaa) (a:Zar):Prop where
  Zax:(a.Zax = -1∧a.kind=1)∨(0≤a.Zax∧a.Zax < c.Zad.length)
  kind:a.kind=1∨((a.kind=2∨a.kind=3)∧(0≤a.give∧a.give < c.Zad.length)∧(0≤a.to∧a.to < c.Zal))
theorem WO {c:Zaa} (h:(z7 c).1=0) {i:Nat} {a:Zar} (ha:c.Zaj[i]?=some a):AV2 c a:=by
  obtain ⟨_,h2,_,_⟩:=yu h
  simp only [q6,Bool.and_eq_true,Bool.not_eq_true',decide_eq_false_iff_not] at h2
  obtain ⟨_,_,_,_,_,b6,_⟩:=h2
  have:=List.all_eq_true.1 b6 a (List.mem_of_getElem? ha)
  unfold Zn at this
  cases hr:jg c.Zad.length a.Zax with
  | true=>
    rw [hr] at this
    simp only [jg,Bool.and_eq_true,decide_eq_true_eq] at hr
    cases h1:(a.kind == 1) with
    | true=>exact ⟨.inr hr,.inl (beq_iff_eq.1 h1)⟩
    | false=>
      rw [h1] at this
      simp only [ZaR,ZaS,Bool.and_eq_true,Bool.or_eq_true,beq_iff_eq,jg,decide_eq_true_eq] at this
      exact ⟨.inr hr,.inr ⟨this.1,this.2.1,by omega⟩⟩
  | false=>
    rw [hr] at this
    simp only [ZaS,Bool.and_eq_true,beq_iff_eq] at this
    exact ⟨.inl ⟨this.2.1,this.1⟩,.inl this.1⟩
theorem zjA {c:Zaa} (ho:c.off.length < 4611686018427387904) (h:(z7 c).1=0):c.off.Pairwise (· < ·):=by
  obtain ⟨_,h2,_,_⟩:=yu h
  simp only [q6,Bool.and_eq_true] at h2
  have b7:=h2.2.2.2.2.2.2
  have e:kx c.Zas c.off=xO c.Zas (-1) c.off:=by
    unfold kx
    rw [zcK c.Zas c.off ho (-1)]
    cases xO c.Zas (-1) c.off<;>rfl
  rw [e] at b7
  exact (Q9 b7).2
def MOk (c:Zaa) (ms:List zw):Prop:=ms.length=c.Zaf.length∧∀ (i:Nat) (k:Zan) (m:zw),c.Zaf[i]?=some k→ms[i]?=some m→qy c.Zal k m=true
def NR (c:Zaa) (ms:List zw):Prop:=∀ i,i < c.Zaf.length→qo c.Zaf ms i=false
def qS (k:Zan) (b:Int):zw:={Zak:=1,left:=k.after,got:=0,Zaq:=b,Zat:=false}
def StR (c:Zaa) (ms ms':List zw):Prop:=∀ (i:Nat) (m m':zw),ms[i]?=some m→ms'[i]?=some m'→m'=m∨(m.Zak=0∧∃ k b,c.Zaf[i]?=some k∧m'=qS k b)
def jp (ms:List zw):Nat:=ms.countP (fun m=>m.Zak == 0)
def qT (hs:List Int) (k:Zan):Int:=bif k.kind == 4 then -1 else hs[k.Zax.toNat]?.getD 0
def Jl (ks:List Zan) (ms:List zw):Nat→Nat→Prop
  | 0,_=>False
  | n+1,i=>∃ k m,ks[i]?=some k∧ms[i]?=some m∧m.Zak=0∧k.waived=false∧∀ x∈k.start,qW ms x=true∨(x.is=1∧Jl ks ms n x.clause.toNat)
def Sta (ks:List Zan) (ms:List zw) (i:Nat):Prop:=∃ n,Jl ks ms n i
def Jm (c:Zaa) (hs:List Int) (ms r:List zw):Prop:=∀ (i:Nat) (k:Zan) (m:zw),c.Zaf[i]?=some k→ms[i]?=some m→r[i]?=some m∨(Sta c.Zaf ms i∧r[i]?=some (qS k (qT hs k)))
def zjB (c:Zaa) (hs:List Int) (ms r:List zw):Prop:=∀ (i:Nat) (k:Zan) (m:zw),c.Zaf[i]?=some k→ms[i]?=some m→(¬ Sta c.Zaf ms i∧r[i]?=some m)∨(Sta c.Zaf ms i∧r[i]?=some (qS k (qT hs k)))
theorem Yk {ks:List Zan} {ms:List zw}:∀ (n i:Nat),Jl ks ms n i→Jl ks ms (n+1) i
  | 0,i,h=>h.elim
  | n+1,i,⟨k,m,h1,h2,h3,h4,h5⟩=>⟨k,m,h1,h2,h3,h4,fun x hx=>(h5 x hx).imp id fun h=>⟨h.1,Yk n _ h.2⟩⟩
theorem Vx {ks:List Zan} {ms:List zw} {n i:Nat} (h:Jl ks ms n i):∀ d,Jl ks ms (n+d) i
  | 0=>h
  | d+1=>Yk _ _ (Vx h d)
theorem zbI {ks:List Zan} {ms:List zw}:∀ (l:List CondT),(∀ x∈l,qW ms x=true∨(x.is=1∧Sta ks ms x.clause.toNat))→∃ n,∀ x∈l,qW ms x=true∨(x.is=1∧Jl ks ms n x.clause.toNat)
  | [],_=>⟨0,fun x hx=>by cases hx⟩
  | y::l,h=>by
    obtain ⟨n,hn⟩:=zbI l (fun x hx=>h x (List.mem_cons_of_mem _ hx))
    rcases h y (List.mem_cons_self ..) with h1 | ⟨h1,d,h2⟩
    · refine ⟨n,fun x hx => ?_⟩
      rcases List.mem_cons.1 hx with rfl | hx
      · exact .inl h1
      · exact hn x hx
    · refine ⟨n+d,fun x hx => ?_⟩
      rcases List.mem_cons.1 hx with rfl | hx
      · exact .inr ⟨h1,by rw [Nat.add_comm];exact Vx h2 n⟩
      · exact (hn x hx).imp id fun h=>⟨h.1,Vx h.2 d⟩
theorem WP {ms:List zw} {x:CondT} {m:zw} (hx:ze ms x.clause=some m) (h1:m.Zak=1):qW ms x=(x.is == 1):=by
  simp only [qW,hx,h1]
  cases (x.is == 1)<;>cases (x.is == 2)<;>cases (x.is == 3)<;>cases (x.is == 4)<;>rfl
theorem zeT {ms:List zw} {x:CondT} {m:zw} (hx:ze ms x.clause=some m) (h1:m.Zak=0):qW ms x=false:=by
  simp only [qW,hx,h1]
  cases (x.is == 1)<;>cases (x.is == 2)<;>cases (x.is == 3)<;>cases (x.is == 4)<;>rfl
structure StartP (c:Zaa) (hs:List Int) (ms r:List zw):Prop where
  ok:MOk c r
  nr:NR c r
  rel:StR c ms r
  same:NR c ms→r=ms
  sta:zjB c hs ms r
theorem zc4 {ks:List Zan} {ms:List zw} {i:Nat} {m:zw} (h:Sta ks ms i) (hm:ms[i]?=some m):m.Zak=0:=by
  obtain ⟨n,h⟩:=h
  cases n with
  | zero=>exact h.elim
  | succ n=>obtain ⟨k,m',_,h2,h3,_⟩:=h;rw [hm] at h2;cases h2;exact h3
theorem Yl {c:Zaa} {hs:List Int} {ms r:List zw} (hl:ms.length=c.Zaf.length) (hr:r.length=c.Zaf.length) (hI:Jm c hs ms r) {i:Nat} {k:Zan} (hk:c.Zaf[i]?=some k) (hcd:∀ x∈k.start,0≤x.clause∧x.clause < c.Zaf.length) (hy:qo c.Zaf r i=true):Sta c.Zaf ms i:=by
  have hi:=(List.getElem?_eq_some_iff.1 hk).1
  have hm:=List.getElem?_eq_getElem (show i < ms.length by omega)
  have hmr:=List.getElem?_eq_getElem (show i < r.length by omega)
  simp only [qo,hk,hmr,Bool.and_eq_true,Bool.not_eq_true',beq_iff_eq,List.all_eq_true] at hy
  obtain ⟨⟨h0,hw⟩,hc⟩:=hy
  rcases hI i k _ hk hm with h | ⟨h,_⟩
  · rw [hmr] at h
    have e:=Option.some.inj h
    obtain ⟨n,hn⟩:=zbI (ks:=c.Zaf) (ms:=ms) k.start (fun x hx=>by
      obtain ⟨x0,x1⟩:=hcd x hx
      have hxi:=qm (l:=ms) (n:=x.clause) x0 (by omega)
      obtain ⟨a1,a2⟩:=hxi
      obtain ⟨b1,b2⟩:=qm (l:=r) (n:=x.clause) x0 (by omega)
      have hkx:=List.getElem?_eq_getElem (show x.clause.toNat < c.Zaf.length by omega)
      have hx':=hc x hx
      rcases hI x.clause.toNat _ _ hkx (List.getElem?_eq_getElem a1) with h2 | ⟨h2,h3⟩
      · left
        rw [List.getElem?_eq_getElem b1] at h2
        simp only [qW,b2,Option.some.inj h2] at hx'
        simp only [qW,a2];exact hx'
      · right
        rw [List.getElem?_eq_getElem b1] at h3
        rw [WP b2 (by rw [Option.some.inj h3];rfl)] at hx'
        exact ⟨beq_iff_eq.1 hx',h2⟩)
    exact ⟨n+1,k,_,hk,hm,by rw [←e];exact h0,hw,hn⟩
  · exact h
theorem zbJ {c:Zaa} {hs:List Int} {ms r:List zw} (hl:ms.length=c.Zaf.length) (hr:r.length=c.Zaf.length) (hI:Jm c hs ms r) (hn:NR c r) (hcd:∀ (i:Nat) (k:Zan),c.Zaf[i]?=some k→∀ x∈k.start,0≤x.clause∧x.clause < c.Zaf.length):zjB c hs ms r:=by
  have key:∀ (n i:Nat) (k:Zan),Jl c.Zaf ms n i→c.Zaf[i]?=some k→r[i]?=some (qS k (qT hs k)):=by
    intro n
    induction n with
    | zero=>intro i k h;exact h.elim
    | succ n ih=>
      intro i k h hk
      have hi:=(List.getElem?_eq_some_iff.1 hk).1
      obtain ⟨k',m,h1,h2,h3,h4,h5⟩:=h
      rw [hk] at h1
      cases h1
      rcases hI i k m hk h2 with h | ⟨_,h⟩
      · exfalso
        have:=hn i hi
        have hy:qo c.Zaf r i=true:=by
          simp only [qo,hk,h,h3,h4,beq_self_eq_true,ZaJ,ZaM,ZaK,List.all_eq_true]
          intro x hx
          obtain ⟨x0,x1⟩:=hcd i k hk x hx
          obtain ⟨a1,a2⟩:=qm (l:=ms) (n:=x.clause) x0 (by omega)
          obtain ⟨b1,b2⟩:=qm (l:=r) (n:=x.clause) x0 (by omega)
          have hkx:=List.getElem?_eq_getElem (show x.clause.toNat < c.Zaf.length by omega)
          rcases h5 x hx with h6 | ⟨h6,h7⟩
          · rcases hI x.clause.toNat _ _ hkx (List.getElem?_eq_getElem a1) with g | ⟨g,g2⟩
            · rw [List.getElem?_eq_getElem b1] at g
              simp only [qW,a2] at h6
              simp only [qW,b2,Option.some.inj g];exact h6
            · rw [zeT a2 (zc4 g (List.getElem?_eq_getElem a1))] at h6;cases h6
          · have g:=ih _ _ h7 hkx
            rw [List.getElem?_eq_getElem b1] at g
            rw [WP b2 (by rw [Option.some.inj g];rfl),h6];rfl
        rw [hy] at this;cases this
      · exact h
  intro i k m hk hm
  by_cases hs':Sta c.Zaf ms i
  · obtain ⟨n,h⟩:=hs'
    exact .inr ⟨⟨n,h⟩,key n i k h hk⟩
  · rcases hI i k m hk hm with h | ⟨h,_⟩
    · exact .inl ⟨hs',h⟩
    · exact absurd h hs'
theorem Ym {ms:List zw} {i:Nat} {m m':zw} (h:ms[i]?=some m) (h0:m.Zak=0) (h1:m'.Zak≠0):jp (ms.set i m') < jp ms:=by
  obtain ⟨hi,rfl⟩:=List.getElem?_eq_some_iff.1 h
  unfold jp
  rw [List.countP_set hi]
  have hp:0 < ms.countP (fun m=>m.Zak == 0):=List.countP_pos_iff.2 ⟨_,List.getElem_mem hi,by simp [h0]⟩
  simp only [h0,beq_self_eq_true,if_true,beq_iff_eq,h1,if_false]
  omega
noncomputable def yv (c:Zaa) (day:Int) (hs:List Int) (us:List Bool) (ms:List zw):Option (List zw):=x6 c day hs hs.length us us.length ms ms.length
theorem Qy (n:Nat):eqN n n=some ⟨rfl⟩:=by unfold eqN;rw [dif_pos rfl]
theorem yw {a b:Nat} (h:a=b):eqN a b=some ⟨h⟩:=by unfold eqN;rw [dif_pos h]
theorem Yn (c:Zaa) (day:Int) (hs:List Int) (us:List Bool) (ms:List zw) (ho:c.off.length < 4611686018427387904) (hv:(z7 c).1=0) (hh:hs.length=c.Zad.length) (hb:∀ h∈hs,0≤h∧h < c.Zal) (hm:MOk c ms) :
    Ret (yv c day hs us ms) (StartP c hs ms):=by
  have sm:=qx ho hv
  have hcl:=sm.Zaf
  unfold yv x6
  refine Ret.bind (P:=fun r=>StartP c hs ms r) (Ret.iter (fun s=>MOk c s.2∧StR c ms s.2∧(NR c ms→s.2=ms)∧Jm c hs ms s.2∧(s.1=false→NR c s.2)) (fun s=>2*jp s.2+(if s.1 then 1 else 0)) ⟨hm,fun i m m' h1 h2=>.inl (by simp only at h2;rw [h1] at h2;exact (Option.some.inj h2).symm),fun _=>rfl,fun i k m h1 h2=>.inl h2,fun h=>by cases h⟩ ?_) (fun r hr=>Ret.some hr)
  have hl0:=hm.1
  have hcd:∀ (i:Nat) (k:Zan),c.Zaf[i]?=some k→∀ x∈k.start,0≤x.clause∧x.clause < c.Zaf.length:=fun i k hk=>(jy ho hv hk).cond
  rintro ⟨b,ms1⟩ ⟨hok,hrel,hsame,hsta,hnr⟩
  cases b with
  | false=>exact Ret.some ⟨hok,hnr rfl,hrel,hsame,zbJ hl0 hok.1 hsta (hnr rfl) hcd⟩
  | true=>
    simp only [ZaR]
    refine Ret.bind (P:=fun o=>∃ s2:Bool×List zw,o=.inl s2∧MOk c s2.2∧StR c ms s2.2∧(NR c ms1→s2.2=ms1)∧Jm c hs ms s2.2∧(s2.1=false→s2.2=ms1∧NR c ms1)∧(s2.1=true→jp s2.2 < jp ms1))
      (Ret.forL (n:=c.Zaf.length) (fun i s=>MOk c s.2∧StR c ms s.2∧(NR c ms1→s.2=ms1)∧Jm c hs ms s.2∧(s.1=false→s.2=ms1∧∀ j,j < i→qo c.Zaf ms1 j=false)∧(s.1=true→jp s.2 < jp ms1)) (by omega) ⟨hok,hrel,fun _=>rfl,hsta,fun _=>⟨rfl,fun j hj=>by omega⟩,fun h=>by cases h⟩ ?_ (fun s h=>⟨s,rfl,h⟩)) ?_
    · rintro i ⟨b0,ms2⟩ hi ⟨ok2,rel2,same2,sta2,nr2,lt2⟩
      simp only at ok2 rel2 same2 sta2 nr2 lt2
      have hk:=List.getElem?_eq_getElem hi
      have hl2:=ok2.1
      have hi2:i < ms2.length:=by omega
      have hm2:=List.getElem?_eq_getElem hi2
      have kv:=jy ho hv hk
      have hmk:=ok2.2 i _ _ hk hm2
      rw [zD hk]
      simp only [ZaT,Qy,yw (show ms.length=ms2.length by omega)]
      rw [zbH c _ i _ _ hk hm2 (by have:=kv.start;omega) (fun x hx=>by have:=kv.cond x hx;simp only;omega)]
      simp only [ZaT]
      cases hr:qo c.Zaf ms2 i with
      | false=>
        simp only [ZaS,ZaT]
        refine Ret.some ⟨ok2,rel2,same2,sta2,fun hb=>⟨(nr2 hb).1,fun j hj => ?_⟩,lt2⟩
        rcases Nat.lt_or_ge j i with h | h
        · exact (nr2 hb).2 j h
        · obtain rfl:j=i:=by omega
          rw [←(nr2 hb).1];exact hr
      | true=>
        simp only [ZaR]
        have hr':=hr
        simp only [qo,hk,hm2,Bool.and_eq_true,Bool.not_eq_true',beq_iff_eq] at hr'
        obtain ⟨⟨h0,hw⟩,_⟩:=hr'
        have hbear:Ret (bif (c.Zaf[i].kind == 4) then some (-1) else (Option.bind (zl hs.length c.Zaf[i].Zax) fun k1=>(Option.bind (hs[k1]?) fun e2=>some e2))) (fun v=>v=qT hs c.Zaf[i]∧bif c.Zaf[i].kind == 4 then v = -1 else 0≤v∧v < c.Zal):=by
          refine Ret.ite (fun h4=>Ret.some (by simp [h4,qT])) (fun h4 => ?_)
          have h4':c.Zaf[i].kind≠4:=beq_eq_false_iff_ne.1 h4
          have hro:=kv.Zax.resolve_left h4'
          rw [Vn hro.1 (by omega)]
          have hlt:c.Zaf[i].Zax.toNat < hs.length:=by omega
          simp only [ZaT,List.getElem?_eq_getElem hlt]
          exact Ret.some ⟨by simp [qT,h4,List.getElem?_eq_getElem hlt],by rw [h4];exact hb _ (List.getElem_mem hlt)⟩
        refine Ret.bind (P:=fun v:Bool×List zw=>∃ b,v=(true,ms2.set i (qS c.Zaf[i] b))∧b=qT hs c.Zaf[i]∧(bif c.Zaf[i].kind == 4 then b = -1 else 0≤b∧b < c.Zal)) (Ret.bind hbear fun v hv' => ?_) ?_
        · rw [qG (show i < ms.length by omega)]
          simp only [ZaT,hm2]
          exact Ret.some ⟨v,rfl,hv'⟩
        · rintro _ ⟨b,rfl,hbe,hbv⟩
          have hnew:qy c.Zal c.Zaf[i] (qS c.Zaf[i] b)=true:=by
            simp only [qy,qS,vE,hw]
            have h1:=kv.after
            have:¬ c.Zaf[i].after < 1:=by omega
            cases h4:(c.Zaf[i].kind == 4) with
            | true=>rw [h4] at hbv;simp only [ZaR] at hbv;subst hbv;simp [this]
            | false=>rw [h4] at hbv;simp only [ZaS] at hbv;simp [this,hbv]
          refine Ret.some ⟨⟨by simpa using hl2,fun j k m hj hmj => ?_⟩,fun j m m' h1 h2 => ?_,fun hn => ?_,fun j k m hj hmj => ?_,fun h=>by simp at h,fun _ => ?_⟩
          · rw [List.getElem?_set] at hmj
            by_cases hij:i=j
            · subst hij
              rw [if_pos rfl,if_pos hi2] at hmj
              rw [hk] at hj
              cases hj;cases hmj;exact hnew
            · rw [if_neg hij] at hmj;exact ok2.2 j k m hj hmj
          · simp only at h2
            rw [List.getElem?_set] at h2
            by_cases hij:i=j
            · subst hij
              rw [if_pos rfl,if_pos hi2] at h2
              cases h2
              refine .inr ⟨?_,_,b,hk,rfl⟩
              rcases rel2 i m _ h1 hm2 with h | ⟨h,_⟩
              · rw [←h];exact h0
              · exact h
            · rw [if_neg hij] at h2;exact rel2 j m m' h1 h2
          · have e:=same2 hn
            have:=hn i hi
            rw [←e,hr] at this
            cases this
          · show (ms2.set i (qS c.Zaf[i] b))[j]?=some m∨Sta c.Zaf ms j∧(ms2.set i (qS c.Zaf[i] b))[j]?=some (qS k (qT hs k))
            rw [List.getElem?_set]
            by_cases hij:i=j
            · subst hij
              rw [if_pos rfl,if_pos hi2]
              rw [hk] at hj
              cases hj
              exact .inr ⟨Yl hl0 hl2 sta2 hk (hcd _ _ hk) hr,by rw [hbe]⟩
            · rw [if_neg hij];exact sta2 j k m hj hmj
          · have h3:=Ym (m':=qS c.Zaf[i] b) hm2 h0 (by simp [qS])
            show jp (ms2.set i (qS c.Zaf[i] b)) < jp ms1
            cases b0 with
            | true=>have:=lt2 rfl;omega
            | false=>have e:=(nr2 rfl).1;subst e;exact h3
    · rintro _ ⟨⟨b2,ms2⟩,rfl,ok2,rel2,same2,sta2,nr2,lt2⟩
      simp only at ok2 rel2 same2 sta2 nr2 lt2
      simp only [ZaU]
      refine Ret.some ⟨⟨ok2,rel2,fun hn => ?_,sta2,fun hb2 => ?_⟩,?_⟩
      · have e:=hsame hn
        simp only at e
        subst e
        exact same2 hn
      · obtain ⟨e1,e2⟩:=nr2 hb2
        simp only;rw [e1];exact e2
      · simp only
        cases b2 with
        | true=>have:=lt2 rfl;simp;omega
        | false=>have:=(nr2 rfl).1;subst this;simp
def qt (m:zw):Bool:=m.Zak == 1||m.Zak == 2
theorem kZ (m:zw):jr m=some (qt m):=by
  simp only [jr,zh,ZaT,qt];cases (m.Zak == 1)<;>rfl
def Zo (st:Int) (m:zw):zw:={m with Zak:=st,left:=0,Zat:=false}
def jj (free:Bool) (k:Zan) (m:zw):zw:=
  bif qt m then (bif m.Zat||(k.business&&free) then m else
    bif m.left - 1 == 0 then (bif k.kind == 1 then (bif m.Zak == 1&&decide (0 < k.ZaA) then {m with Zak:=2,left:=k.ZaA} else Zo 4 m) else bif k.kind == 2 then Zo 3 m else Zo 5 m)
    else {m with left:=m.left - 1}) else m
def atK (c:Zaa) (F:Zan→zw→zw) (i:Nat) (m:zw):zw:=match c.Zaf[i]? with | some k=>F k m | none=>m
structure RunV (c:Zaa) (k:Zan) (m:zw):Prop where
  waived:k.waived=false
  left:1≤m.left∧m.left≤400
  Zat:m.Zat=true→k.pause ≠ -1
  got:m.got=0∨(k.kind=1∧0≤m.got∧m.got < k.need)
  Zaq:(k.kind=4∧m.Zaq = -1)∨(k.kind≠4∧0≤m.Zaq∧m.Zaq < c.Zal)
theorem jk {p:Int} {k:Zan} {m:zw}:vE p k m=true↔k.waived=false∧1≤m.left∧(m.Zat=true→k.pause ≠ -1)∧(m.got=0∨(k.kind=1∧0≤m.got∧m.got < k.need))∧((k.kind=4∧m.Zaq = -1)∨(k.kind≠4∧0≤m.Zaq∧m.Zaq < p)):=by
  simp only [vE,Bool.and_eq_true,Bool.not_eq_true',Bool.or_eq_false_iff,decide_eq_false_iff_not,Bool.or_eq_true,beq_iff_eq]
  have e1:(m.Zat&&k.pause == -1)=false↔(m.Zat=true→k.pause ≠ -1):=by cases m.Zat<;>simp
  have e2:(bif k.kind == 4 then m.Zaq == -1 else decide (0≤m.Zaq)&&decide (m.Zaq < p))=true↔((k.kind=4∧m.Zaq = -1)∨(k.kind≠4∧0≤m.Zaq∧m.Zaq < p)):=by
    cases h:(k.kind == 4) with
    | true=>have:=beq_iff_eq.1 h;simp [this]
    | false=>have:=beq_eq_false_iff_ne.1 h;simp [this]
  rw [e1,e2]
  constructor
  · rintro ⟨⟨a,b,d⟩,e,f⟩;exact ⟨a,by omega,d,by omega,f⟩
  · rintro ⟨a,b,d,e,f⟩;exact ⟨⟨a,by omega,d⟩,by omega,f⟩
theorem vF {p:Int} {k:Zan} {m:zw}:qy p k m=true↔(m.Zak=0∧k.waived=false∧WN m=true)∨(m.Zak=1∧m.left≤k.after∧vE p k m=true)∨(m.Zak=2∧k.kind=1∧m.left≤k.ZaA∧vE p k m=true)∨((m.Zak=3∨m.Zak=4∨m.Zak=5)∧zal p m=true):=by
  unfold qy
  by_cases h0:m.Zak=0
  · simp [h0]
  by_cases h1:m.Zak=1
  · simp [h1]
  by_cases h2:m.Zak=2
  · simp [h2]
  have e0:(m.Zak == 0)=false:=beq_eq_false_iff_ne.2 h0
  have e1:(m.Zak == 1)=false:=beq_eq_false_iff_ne.2 h1
  have e2:(m.Zak == 2)=false:=beq_eq_false_iff_ne.2 h2
  simp [e0,e1,e2,h0,h1,h2]
theorem xl {c:Zaa} {i:Nat} {k:Zan} {m:zw} (kv:KV c i k) (h:qy c.Zal k m=true) (hr:qt m=true):RunV c k m∧vE c.Zal k m=true∧(m.Zak=1∧m.left≤k.after∨m.Zak=2∧k.kind=1∧m.left≤k.ZaA):=by
  simp only [qt,Bool.or_eq_true,beq_iff_eq] at hr
  have ha:=kv.after
  have hg:=kv.ZaA
  rcases vF.1 h with ⟨h0,_⟩ | ⟨h0,h1,h2⟩ | ⟨h0,h1,h2,h3⟩ | ⟨h0,_⟩
  · omega
  · obtain ⟨a,b,d,e,f⟩:=jk.1 h2
    exact ⟨⟨a,⟨b,by omega⟩,d,e,f⟩,h2,.inl ⟨h0,h1⟩⟩
  · obtain ⟨a,b,d,e,f⟩:=jk.1 h3
    exact ⟨⟨a,⟨b,by omega⟩,d,e,f⟩,h3,.inr ⟨h0,h1,h2⟩⟩
  · omega
theorem ZT {c:Zaa} {i:Nat} {k:Zan} {m:zw} {st:Int} (kv:KV c i k) (rv:RunV c k m) (hp:0 < c.Zal) (hst:st=3∨st=4∨st=5):qy c.Zal k (Zo st m)=true:=by
  refine vF.2 (.inr (.inr (.inr ⟨hst,?_⟩)))
  have h1:=rv.got
  have h2:=rv.Zaq
  have h3:=kv.need
  have e1:decide (0≤m.got)=true:=decide_eq_true (by omega)
  have e2:decide (m.got≤9)=true:=decide_eq_true (by omega)
  have e3:decide (-1≤m.Zaq)=true:=decide_eq_true (by omega)
  have e4:decide (m.Zaq < c.Zal)=true:=decide_eq_true (by omega)
  show ((0:Int) == 0&&(decide (0≤m.got)&&(decide (m.got≤9)&&(decide (-1≤m.Zaq)&&(decide (m.Zaq < c.Zal) && !false)))))=true
  rw [e1,e2,e3,e4];rfl
theorem yQ {c:Zaa} {k:Zan} {m:zw} (h:(m.Zak=1∧m.left≤k.after)∨(m.Zak=2∧k.kind=1∧m.left≤k.ZaA)) (hr:vE c.Zal k m=true):qy c.Zal k m=true:=by
  rcases h with ⟨h0,h1⟩ | ⟨h0,h1,h2⟩
  · exact vF.2 (.inr (.inl ⟨h0,h1,hr⟩))
  · exact vF.2 (.inr (.inr (.inl ⟨h0,h1,h2,hr⟩)))
theorem MOk.mapIdx {c:Zaa} {ms:List zw} (F:Zan→zw→zw) (h:MOk c ms) (hF:∀ (i:Nat) (k:Zan) (m:zw),c.Zaf[i]?=some k→qy c.Zal k m=true→qy c.Zal k (F k m)=true):MOk c (ms.mapIdx (atK c F)):=by
  refine ⟨by simpa using h.1,fun i k m hk hm => ?_⟩
  rw [List.getElem?_mapIdx] at hm
  obtain ⟨m0,h0,rfl⟩:=Option.map_eq_some_iff.1 hm
  simp only [atK,hk]
  exact hF i k m0 hk (h.2 i k m0 hk h0)
theorem zam {c:Zaa} {i:Nat} {k:Zan} {m:zw} (free:Bool) (kv:KV c i k) (hp:0 < c.Zal) (h:qy c.Zal k m=true):qy c.Zal k (jj free k m)=true:=by
  unfold jj
  cases hr:qt m with
  | false=>exact h
  | true=>
    obtain ⟨rv,hb,hs⟩:=xl kv h hr
    simp only [ZaR]
    cases hp1:(m.Zat||(k.business&&free)) with
    | true=>exact h
    | false=>
      simp only [ZaS]
      have hl:=rv.left
      obtain ⟨b1,b2,b3,b4,b5⟩:=jk.1 hb
      cases hz:(m.left - 1 == 0) with
      | false=>
        have:=beq_eq_false_iff_ne.1 hz
        refine yQ ?_ (jk.2 ⟨b1,?_,b3,b4,b5⟩)
        · simp only [ZaS];omega
        · simp only [ZaS];omega
      | true=>
        simp only [ZaR]
        cases h1:(k.kind == 1) with
        | false=>
          cases h2:(k.kind == 2) with
          | true=>exact ZT kv rv hp (by omega)
          | false=>exact ZT kv rv hp (by omega)
        | true=>
          simp only [ZaR]
          cases h3:(m.Zak == 1&&decide (0 < k.ZaA)) with
          | false=>exact ZT kv rv hp (by omega)
          | true=>
            simp only [Bool.and_eq_true,beq_iff_eq,decide_eq_true_eq] at h3
            exact yQ (.inr ⟨rfl,beq_iff_eq.1 h1,Int.le_refl _⟩) (jk.2 ⟨b1,by simp only [ZaR];omega,b3,b4,b5⟩)
theorem q7 {α:Type} {s:List α} {i:Nat} {m:α} (h:s[i]?=some m):s.set i m=s:=by
  obtain ⟨hi,rfl⟩:=List.getElem?_eq_some_iff.1 h
  exact List.set_getElem_self hi
theorem vG {α:Type} {s:List α} {i:Nat} {m x:α} (h:s[i]?=some m):(s.set i x)[i]?=some x:=by
  have:=(List.getElem?_eq_some_iff.1 h).1
  simp [this]
theorem JZ (i:Nat) (st:Int) (c:Zaa) (p4:Int) (p5:List Int) (p6:Nat) (p7:List Bool) (p8:Nat) (ms:List zw) (n:Nat) (m:zw) (hi:i < n) (hm:ms[i]?=some m):xK i st c p4 p5 p6 p7 p8 ms n=some (ms.set i (Zo st m)):=by
  unfold xK
  simp only [qG hi,ZaT,hm,List.set_set,Zo]
theorem zhY (c:Zaa) (day:Int) (hs:List Int) (us:List Bool) (ms:List zw) (ho:c.off.length < 4611686018427387904) (hv:(z7 c).1=0) (hm:MOk c ms) (hday:0≤day∧day≤2000) :
    d_70a c day hs hs.length us us.length ms ms.length=yv c (day+1) hs us (ms.mapIdx (atK c (jj (qw c.off day).isSome))):=by
  have sm:=qx ho hv
  have hcl:=sm.Zaf
  have hl:=hm.1
  unfold d_70a
  obtain ⟨r,hr,_⟩:=Vw c.off day (zjA ho hv) ho
  rw [hr]
  simp only [ZaT,j6]
  rw [xk ms (atK c (jj (qw c.off day).isSome)) (by omega) ?_]
  · simp only [ZaT,ZaU]
    rw [zX (by omega) (by omega)]
    unfold yv
    rw [List.length_mapIdx]
    generalize x6 _ _ _ _ _ _ _ _=x
    cases x<;>rfl
  · intro i m s h1 h2 h3
    have hi:i < ms.length:=(List.getElem?_eq_some_iff.1 h1).1
    have hic:i < c.Zaf.length:=by omega
    have hk:=List.getElem?_eq_getElem hic
    have kv:=jy ho hv hk
    have hmk:=hm.2 i _ _ hk h1
    simp only [qG hi,ZaT,h3,kZ,atK,hk]
    generalize c.Zaf[i]=k at hk kv hmk
    cases hrn:qt m with
    | false=>simp only [ZaS,ZaT,jj,hrn,q7 h3]
    | true=>
      obtain ⟨rv,hb,hst⟩:=xl kv hmk hrn
      have hleft:=rv.left
      simp only [ZaR,zD hk,ZaT,jj,hrn,zh]
      have epb:(bif m.Zat then true else bif k.business then (qw c.off day).isSome else false)=(m.Zat||(k.business&&(qw c.off day).isSome)):=by cases m.Zat<;>cases k.business<;>rfl
      rw [epb]
      cases hp1:(m.Zat||(k.business&&(qw c.off day).isSome)) with
      | true=>simp only [ZaR,ZaT,ZaI,ZaS,q7 h3]
      | false=>
        rw [zX (show -9223372036854775808≤m.left - 1 by omega) (by omega)]
        simp only [ZaS,ZaT,vG h3]
        cases hz:(m.left - 1 == 0) with
        | false=>simp only [ZaS,ZaT,ZaI]
        | true=>
          have hz':=beq_iff_eq.1 hz
          have hk0:(k.kind == 0)=false:=beq_eq_false_iff_ne.2 (by have:=kv.kind;omega)
          simp only [ZaR,hk0,ZaS,WA,x7,kR,qG hi,ZaT,vG h3,zD hk,zh]
          rw [JZ i 4 _ _ _ _ _ _ _ _ _ hi (vG h3),JZ i 3 _ _ _ _ _ _ _ _ _ hi (vG h3),JZ i 5 _ _ _ _ _ _ _ _ _ hi (vG h3)]
          simp only [ZaT,List.set_set,Zo,hz']
          cases h1:(k.kind == 1) with
          | true=>
            simp only [ZaR]
            have e3:(bif m.Zak == 1 then decide (0 < k.ZaA) else false)=(m.Zak == 1&&decide (0 < k.ZaA)):=by cases (m.Zak == 1)<;>rfl
            rw [e3]
            cases h4:(m.Zak == 1&&decide (0 < k.ZaA))<;>simp
          | false=>
            cases h2:(k.kind == 2) with
            | true=>simp
            | false=>
              cases h3:(k.kind == 3) with
              | true=>simp
              | false=>
                have h4:(k.kind == 4)=true:=beq_iff_eq.2 (by have:=kv.kind;have:=beq_eq_false_iff_ne.1 h1;have:=beq_eq_false_iff_ne.1 h2;have:=beq_eq_false_iff_ne.1 h3;omega)
                simp [h4]
def xc (act:Int) (k:Zan) (m:zw):zw:=
  bif qt m then (bif act == k.pause then {m with Zat:=true} else bif act == k.ZaG then {m with Zat:=false} else m) else m
def Y1 (k:Zan) (m:zw):zw:=bif m.got+1 == k.need then Zo 3 {m with got:=m.got+1} else {m with got:=m.got+1}
def kz (k:Zan) (m:zw):zw:=bif k.kind == 1 then Y1 k m else bif k.kind == 2 then (bif m.Zat then m else Zo 4 m) else Zo 3 m
def xD (act by_:Int) (k:Zan) (m:zw):zw:=bif qt m then (bif k.act == act&&(k.kind == 4||m.Zaq == by_) then kz k m else m) else m
def wT (a:Zar) (k:Zan) (m:zw):zw:=bif qt m then (bif !(k.kind == 4)&&k.Zax == a.give then {m with Zaq:=a.to} else m) else m
def qU (hs:List Int) (a:Zar):Int:=bif a.Zax == -1 then -1 else hs[a.Zax.toNat]?.getD 0
theorem zjC (c:Zaa) (s:Zao) (i:Nat) (a:Zar) (ha:c.Zaj[i]?=some a) (h:a.Zax = -1∨(0≤a.Zax∧a.Zax < s.Zad.length)):ZE c s i=some (qU s.Zad a):=by
  unfold ZE qU
  simp only [zD ha,ZaT]
  cases hr:(a.Zax == -1) with
  | true=>rfl
  | false=>
    have h1:=beq_eq_false_iff_ne.1 hr
    obtain ⟨h2,h3⟩:=qm (l:=s.Zad) (n:=a.Zax) (by omega) (by omega)
    simp only [ZaS,h3,ZaT,List.getElem?_eq_getElem h2,Option.getD_some]
theorem zeU {c:Zaa} {i:Nat} {k:Zan} {m:zw} {act:Int} (ha:0≤act) (kv:KV c i k) (h:qy c.Zal k m=true):qy c.Zal k (xc act k m)=true:=by
  unfold xc
  cases hr:qt m with
  | false=>exact h
  | true=>
    obtain ⟨rv,hb,hs⟩:=xl kv h hr
    obtain ⟨b1,b2,b3,b4,b5⟩:=jk.1 hb
    simp only [ZaR]
    cases h1:(act == k.pause) with
    | true=>exact yQ hs (jk.2 ⟨b1,b2,fun _=>by have:=beq_iff_eq.1 h1;omega,b4,b5⟩)
    | false=>
      cases h2:(act == k.ZaG) with
      | true=>exact yQ hs (jk.2 ⟨b1,b2,fun h=>absurd (show false=true from h) (by decide),b4,b5⟩)
      | false=>exact h
theorem zhZ {c:Zaa} {i:Nat} {k:Zan} {m:zw} {act by_:Int} (hp:0 < c.Zal) (kv:KV c i k) (h:qy c.Zal k m=true):qy c.Zal k (xD act by_ k m)=true:=by
  unfold xD
  cases hr:qt m with
  | false=>exact h
  | true=>
    obtain ⟨rv,hb,hs⟩:=xl kv h hr
    obtain ⟨b1,b2,b3,b4,b5⟩:=jk.1 hb
    simp only [ZaR]
    cases h1:(k.act == act&&(k.kind == 4||m.Zaq == by_)) with
    | false=>exact h
    | true=>
      simp only [ZaR,kz]
      have hn:=kv.need
      cases h2:(k.kind == 1) with
      | true=>
        have hk:=beq_iff_eq.1 h2
        simp only [ZaR,Y1]
        cases h3:(m.got+1 == k.need) with
        | true=>
          have h3':=beq_iff_eq.1 h3
          refine vF.2 (.inr (.inr (.inr ⟨.inl rfl,?_⟩)))
          have e1:decide (0≤m.got+1)=true:=decide_eq_true (by omega)
          have e2:decide (m.got+1≤9)=true:=decide_eq_true (by omega)
          have e3:decide (-1≤m.Zaq)=true:=decide_eq_true (by omega)
          have e4:decide (m.Zaq < c.Zal)=true:=decide_eq_true (by omega)
          show ((0:Int) == 0&&(decide (0≤m.got+1)&&(decide (m.got+1≤9)&&(decide (-1≤m.Zaq)&&(decide (m.Zaq < c.Zal) && !false)))))=true
          rw [e1,e2,e3,e4];rfl
        | false=>
          have h3':=beq_eq_false_iff_ne.1 h3
          refine yQ hs (jk.2 ⟨b1,b2,b3,.inr ⟨hk,?_,?_⟩,b5⟩)
          · show 0≤m.got+1;omega
          · show m.got+1 < k.need;omega
      | false=>
        simp only [ZaS]
        cases h3:(k.kind == 2) with
        | true=>
          simp only [ZaR]
          cases m.Zat with
          | true=>exact h
          | false=>exact ZT kv rv hp (by omega)
        | false=>exact ZT kv rv hp (by omega)
theorem zgi {c:Zaa} {i:Nat} {k:Zan} {m:zw} {a:Zar} (kv:KV c i k) (ht:0≤a.to∧a.to < c.Zal) (h:qy c.Zal k m=true):qy c.Zal k (wT a k m)=true:=by
  unfold wT
  cases hr:qt m with
  | false=>exact h
  | true=>
    obtain ⟨rv,hb,hs⟩:=xl kv h hr
    obtain ⟨b1,b2,b3,b4,b5⟩:=jk.1 hb
    simp only [ZaR]
    cases h1:(!(k.kind == 4)&&k.Zax == a.give) with
    | false=>exact h
    | true=>
      simp only [Bool.and_eq_true,Bool.not_eq_true',beq_eq_false_iff_ne] at h1
      exact yQ hs (jk.2 ⟨b1,b2,b3,b4,.inr ⟨h1.1,ht.1,ht.2⟩⟩)
def ms1 (c:Zaa) (act:Int) (ms:List zw):List zw:=ms.mapIdx (atK c (xc act))
def ms2 (c:Zaa) (act:Int) (a:Zar) (hs:List Int) (ms:List zw):List zw:=(ms1 c act ms).mapIdx (atK c (xD act (qU hs a)))
def ms3 (c:Zaa) (act:Int) (a:Zar) (hs:List Int) (ms:List zw):List zw:=bif a.kind == 3 then (ms2 c act a hs ms).mapIdx (atK c (wT a)) else ms2 c act a hs ms
def hs3 (a:Zar) (hs:List Int):List Int:=bif a.kind == 1 then hs else hs.set a.give.toNat a.to
def us3 (i:Nat) (a:Zar) (us:List Bool):List Bool:=bif a.kind == 1 then us else us.set i true
theorem zeV {c:Zaa} {act:Int} {ms:List zw} (ho:c.off.length < 4611686018427387904) (hv:(z7 c).1=0) (ha:0≤act) (hm:MOk c ms):MOk c (ms1 c act ms):=
  hm.mapIdx _ fun i k m hk h=>zeU ha (jy ho hv hk) h
theorem zan {c:Zaa} {act:Int} {a:Zar} {hs:List Int} {ms:List zw} (ho:c.off.length < 4611686018427387904) (hv:(z7 c).1=0) (ha:0≤act) (hm:MOk c ms):MOk c (ms2 c act a hs ms):=
  (zeV ho hv ha hm).mapIdx _ fun i k m hk h=>zhZ (by have:=(qx ho hv).Zal;omega) (jy ho hv hk) h
theorem zeW {c:Zaa} {act:Int} {a:Zar} {hs:List Int} {ms:List zw} (ho:c.off.length < 4611686018427387904) (hv:(z7 c).1=0) (ha:0≤act) (av:AV2 c a) (hm:MOk c ms):MOk c (ms3 c act a hs ms):=by
  unfold ms3
  cases h3:(a.kind == 3) with
  | false=>exact zan ho hv ha hm
  | true=>
    refine (zan ho hv ha hm).mapIdx _ fun i k m hk h=>zgi (jy ho hv hk) ?_ h
    have:=beq_iff_eq.1 h3
    have:=av.kind
    omega
theorem zjD (c:Zaa) (day:Int) (hs:List Int) (us:List Bool) (ms:List zw) (i:Nat) (a:Zar) (ho:c.off.length < 4611686018427387904) (hv:(z7 c).1=0) (hh:hs.length=c.Zad.length) (hu:us.length=c.Zaj.length)
    (ha:c.Zaj[i]?=some a) (hm:MOk c ms) :
    Ql i c day hs hs.length us us.length ms ms.length=(bif !(a.kind == 1)&&us[i]?.getD false then some (hs,us,ms) else
      (yv c day (hs3 a hs) (us3 i a us) (ms3 c i a hs ms)).bind fun r=>some (hs3 a hs,us3 i a us,r)):=by
  have sm:=qx ho hv
  have hcl:=sm.Zaf
  have hl:=hm.1
  have av:=WO hv ha
  have hia:i < c.Zaj.length:=(List.getElem?_eq_some_iff.1 ha).1
  have hiu:i < us.length:=by omega
  unfold Ql
  have eU:(bif a.kind == 1 then some false else (Option.bind (zl us.length (i:Int)) fun k1=>(Option.bind (us[k1]?) fun e2=>some e2)))=some (!(a.kind == 1)&&us[i]?.getD false):=by
    simp only [qG hiu,ZaT,List.getElem?_eq_getElem hiu,Option.getD_some]
    cases (a.kind == 1)<;>rfl
  simp only [zD ha,ZaT]
  rw [eU]
  simp only [ZaT]
  cases hearly:(!(a.kind == 1)&&us[i]?.getD false) with
  | true=>rfl
  | false=>
    simp only [ZaS,j6,ZaT]
    rw [xk ms (atK c (xc i)) (by omega) ?p1]
    case p1=>
      intro j m s h1 h2 h3
      have hj:j < ms.length:=(List.getElem?_eq_some_iff.1 h1).1
      have hk:=List.getElem?_eq_getElem (show j < c.Zaf.length by omega)
      simp only [qG hj,ZaT,h3,kZ,atK,hk,xc]
      generalize c.Zaf[j]=k at hk
      cases hrn:qt m with
      | false=>simp only [ZaS,ZaT,q7 h3]
      | true=>
        simp only [ZaR,zD hk,ZaT]
        cases ((i:Int) == k.pause) with
        | true=>simp only [ZaR,ZaT,ZaI,ZaS]
        | false=>
          simp only [ZaS]
          cases ((i:Int) == k.ZaG) with
          | true=>simp only [ZaR,ZaT,ZaI,ZaS]
          | false=>simp only [ZaS,ZaT,ZaI,q7 h3]
    simp only [ZaT,ZaU]
    show Option.bind (eqN hs.length hs.length) _=_
    simp only [Qy,ZaT,yw (show ms.length=(ms.mapIdx (atK c (xc (i:Int)))).length by simp)]
    rw [zjC c _ i a ha (by have:=av.Zax;simp only;omega)]
    simp only [ZaT]
    have m1ok:=zeV (act:=(i:Int)) ho hv (by omega) hm
    have hlen1:(ms.length:Int)=((ms1 c i ms).length:Int):=by simp [ms1]
    show Option.bind (Option.bind (forR (ms.length:Int) _ (ms1 c i ms)) _) _=_
    rw [hlen1]
    rw [xk (ms1 c i ms) (atK c (xD i (qU hs a))) (by simp [ms1];omega) ?p2]
    case p2=>
      intro j m s h1 h2 h3
      have hj1:j < (ms1 c i ms).length:=(List.getElem?_eq_some_iff.1 h1).1
      have hj:j < ms.length:=by simpa [ms1] using hj1
      have hk:=List.getElem?_eq_getElem (show j < c.Zaf.length by omega)
      have kv:=jy ho hv hk
      have hmk:=m1ok.2 j _ _ hk h1
      simp only [qG hj,ZaT,h3,kZ,atK,hk,xD]
      generalize c.Zaf[j]=k at hk kv hmk
      cases hrn:qt m with
      | false=>simp only [ZaS,ZaT,q7 h3]
      | true=>
        obtain ⟨rv,hb,hst⟩:=xl kv hmk hrn
        simp only [ZaR,zD hk,ZaT]
        have eT:(bif k.act == (i:Int) then (bif k.kind == 4 then some true else some (m.Zaq == qU hs a)) else some false)=some (k.act == (i:Int)&&(k.kind == 4||m.Zaq == qU hs a)):=by
          cases (k.act == (i:Int))<;>cases (k.kind == 4)<;>rfl
        rw [eT]
        simp only [ZaT]
        cases (k.act == (i:Int)&&(k.kind == 4||m.Zaq == qU hs a)) with
        | false=>simp only [ZaS,ZaT,ZaI,q7 h3]
        | true=>
          have hgot:=rv.got
          have hneed:=kv.need
          have hk0:(k.kind == 0)=false:=beq_eq_false_iff_ne.2 (by have:=kv.kind;omega)
          simp only [ZaR,hk0,ZaS,WC,WB,x7,qG hj,ZaT,h3,vG h3,zD hk,kz,Y1]
          rw [zX (show -9223372036854775808≤m.got+1 by omega) (by omega)]
          rw [JZ j 3 _ _ _ _ _ _ _ _ _ hj h3,JZ j 3 _ _ _ _ _ _ _ _ _ hj (vG h3),JZ j 4 _ _ _ _ _ _ _ _ _ hj h3]
          simp only [ZaT,List.set_set]
          cases e1:(k.kind == 1) with
          | true=>cases (m.got+1 == k.need)<;>simp
          | false=>
            cases e2:(k.kind == 2) with
            | true=>cases m.Zat<;>simp [q7 h3]
            | false=>
              cases e3:(k.kind == 3) with
              | true=>simp
              | false=>
                have h4:(k.kind == 4)=true:=beq_iff_eq.2 (by have:=kv.kind;have:=beq_eq_false_iff_ne.1 e1;have:=beq_eq_false_iff_ne.1 e2;have:=beq_eq_false_iff_ne.1 e3;omega)
                simp [h4]
    simp only [ZaT,ZaU]
    show Option.bind (bif a.kind == 1 then some (hs,us,ms2 c i a hs ms) else _) _=_
    have m2ok:=zan (act:=(i:Int)) (a:=a) (hs:=hs) ho hv (by omega) hm
    cases h1:(a.kind == 1) with
    | true=>
      have h3:(a.kind == 3)=false:=beq_eq_false_iff_ne.2 (by have:=beq_iff_eq.1 h1;omega)
      simp only [ZaR,ZaT,hs3,us3,ms3,h1,h3,ZaS]
      unfold yv
      rw [show (ms2 c i a hs ms).length=ms.length by simp [ms2,ms1]]
    | false=>
      have hak:=av.kind.resolve_left (beq_eq_false_iff_ne.1 h1)
      have hg:a.give.toNat < hs.length:=by omega
      simp only [ZaS,WD,zD ha,ZaT]
      rw [Vn (show 0≤a.give by omega) (by omega),qG hiu]
      simp only [ZaT,List.getElem?_eq_getElem hg,List.getElem?_eq_getElem hiu,j6,hs3,us3,ms3,h1,ZaS]
      cases h3:(a.kind == 3) with
      | false=>
        simp only [ZaS,ZaT]
        unfold yv
        rw [show (ms2 c i a hs ms).length=ms.length by simp [ms2,ms1],List.length_set,List.length_set]
        rfl
      | true=>
        simp only [ZaR]
        have hlen2:(ms.length:Int)=((ms2 c i a hs ms).length:Int):=by simp [ms2,ms1]
        rw [hlen2,show List.mapIdx (atK c (xD (i:Int) (qU hs a))) (ms1 c i ms)=ms2 c i a hs ms from rfl]
        rw [xk (ms2 c i a hs ms) (atK c (wT a)) (by simp [ms2,ms1];omega) ?p3]
        case p3=>
          intro j m s h1 h2 h3
          have hj1:j < (ms2 c i a hs ms).length:=(List.getElem?_eq_some_iff.1 h1).1
          have hj:j < ms.length:=by simpa [ms2,ms1] using hj1
          have hk:=List.getElem?_eq_getElem (show j < c.Zaf.length by omega)
          simp only [qG hj,ZaT,h3,kZ,atK,hk,wT]
          generalize c.Zaf[j]=k at hk
          cases hrn:qt m with
          | false=>simp only [ZaS,ZaT,q7 h3]
          | true=>
            simp only [ZaR,zD hk,ZaT]
            cases (k.kind == 4) with
            | true=>simp only [ZaR,ZaT,ZaI,ZaL,ZaS,q7 h3]
            | false=>
              simp only [ZaS,ZaT,ZaJ,ZaK]
              cases (k.Zax == a.give) with
              | true=>simp only [ZaR,ZaT,ZaI,ZaS]
              | false=>simp only [ZaS,ZaT,ZaI,q7 h3]
        simp only [ZaT,ZaU]
        unfold yv
        rw [show ((ms2 c i a hs ms).mapIdx (atK c (wT a))).length=ms.length by simp [ms2,ms1],List.length_set,List.length_set]
def noS:Zao:={day:=0,Zad:=[],used:=[],Zag:=[]}
def zgj (c:Zaa) (i:Nat) (a:Zar) (s r:Zao):Prop:=
  (a.kind≠1∧s.used[i]?=some true∧r=s)∨((a.kind=1∨s.used[i]?=some false)∧r.day=s.day∧r.Zad=hs3 a s.Zad∧r.used=us3 i a s.used∧StartP c (hs3 a s.Zad) (ms3 c i a s.Zad s.Zag) r.Zag)
def zc5 (c:Zaa) (s r:Zao):Prop:=r.day=s.day+1∧r.Zad=s.Zad∧r.used=s.used∧StartP c s.Zad (s.Zag.mapIdx (atK c (jj (qw c.off s.day).isSome))) r.Zag
theorem zao {b n:Nat} (h:n < 1000) (hb:b≤1000):mkN b (n:Int)=some n:=by
  unfold mkN
  have:n*b≤1000*1000:=Nat.mul_le_mul (by omega) hb
  rw [if_pos ⟨by omega,by omega,by omega⟩];simp
theorem XG {α:Type} {l d:List α} {k:Nat} (h:k=d.length) (h2:l.length=k):xp k d l=some l:=by unfold xp;rw [if_pos ⟨h,h2⟩]
theorem zbK {α:Type} {l:List α} {i:Nat} {x y:α} (h:y∈l.set i x):y∈l∨y=x:=List.mem_or_eq_of_mem_set h
theorem zgk {c:Zaa} {s:Zao} {a:Int} (hc:c.Ok) (hv:VS c s) (h1 : -1≤a) (h2:a < c.Zaj.length) (hd:s.day < c.Zas) :
    Ret (d_Step c s a) (fun r=>r.2=0∧VS c r.1∧(a = -1→zc5 c s r.1)∧(∀ (i:Nat) (x:Zar),a=(i:Int)→c.Zaj[i]?=some x→zgj c i x s r.1)):=by
  have ho:=hc.off.lt (by omega:0 < 8)
  have sm:=qx ho hv.cv
  have s1:=sm.Zad
  have s2:=sm.Zaj
  have s3:=sm.Zaf
  have sd:=sm.Zas
  have hlh:=hv.lh
  have hlu:=hv.lu
  have hlm:=hv.lm
  have hday:=hv.day
  have hmo:MOk c s.Zag:=⟨hlm,fun i k m hk hm=>hv.mrk i k m hk hm⟩
  unfold d_Step
  have e1:decide (a < -1)=false:=decide_eq_false (by omega)
  have e2:decide ((c.Zaj.length:Int)≤a)=false:=decide_eq_false (by omega)
  refine Ret.bindE (v:=false) (by rw [Qx c s hc,ky hv,e1,e2];rfl) ?_
  refine Ret.ite (fun h=>by cases h) (fun _ => ?_)
  refine Ret.ite (fun h=>absurd (beq_iff_eq.1 h) (by omega)) (fun _ => ?_)
  refine Ret.bindE (zao (show s.Zad.length < 1000 by omega) (by omega)) ?_
  refine Ret.bindE (zao (show s.used.length < 1000 by omega) (by omega)) ?_
  refine Ret.bindE (zao (show s.Zag.length < 1000 by omega) (by omega)) ?_
  refine Ret.bindE (XG (by simp) rfl) ?_
  refine Ret.bindE (XG (by simp) rfl) ?_
  refine Ret.bindE (XG (by simp) rfl) ?_
  cases ht:(a == (-1:Int)) with
  | true=>
    have ha:=beq_iff_eq.1 ht
    simp only [ZaR]
    rw [zhY c s.day s.Zad s.used s.Zag ho hv.cv hmo (by omega)]
    have hmo2:MOk c (s.Zag.mapIdx (atK c (jj (qw c.off s.day).isSome))):=hmo.mapIdx _ fun i k m hk h=>zam _ (jy ho hv.cv hk) (by have:=sm.Zal;omega) h
    refine Ret.bind (P:=fun v:List Int×List Bool×List zw×Int=>v.1=s.Zad∧v.2.1=s.used∧v.2.2.2=s.day+1∧StartP c s.Zad (s.Zag.mapIdx (atK c (jj (qw c.off s.day).isSome))) v.2.2.1)
      (Ret.bind (Yn c (s.day+1) s.Zad s.used _ ho hv.cv hlh hv.hold hmo2) fun r hr=>Ret.some ⟨rfl,rfl,zX (by omega) (by omega),hr⟩) ?_
    rintro ⟨v1,v2,v3,v4⟩ ⟨q1,q2,q3,q4⟩
    simp only at q1 q2 q3 q4
    subst q1;subst q2;subst q3
    have hl3:s.Zag.length=v3.length:=by have:=q4.ok.1;omega
    simp only [Qy,yw hl3,ZaT]
    refine Ret.some ⟨rfl,⟨hv.cv,⟨by show 0≤s.day+1;omega,by show s.day+1≤c.Zas;omega⟩,hlh,hlu,q4.ok.1,hv.hold,hv.used,q4.ok.2,q4.nr⟩,fun _=>⟨rfl,rfl,rfl,q4⟩,fun i x hi=>by omega⟩
  | false=>
    have ha:=beq_eq_false_iff_ne.1 ht
    obtain ⟨i,rfl⟩:∃ i:Nat,a=(i:Int):=⟨a.toNat,by omega⟩
    have hi:i < c.Zaj.length:=by omega
    have hx:=List.getElem?_eq_getElem hi
    generalize c.Zaj[i]=x at hx
    have av:=WO hv.cv hx
    simp only [ZaS]
    rw [zjD c s.day s.Zad s.used s.Zag i x ho hv.cv hlh hlu hx hmo]
    have hiu:i < s.used.length:=by omega
    cases hearly:(!(x.kind == 1)&&s.used[i]?.getD false) with
    | true=>
      simp only [ZaR,ZaT,Qy]
      refine Ret.some ⟨rfl,hv,fun h=>by omega,fun j y hj hy => ?_⟩
      obtain rfl:i=j:=by omega
      rw [hx] at hy;cases hy
      simp only [Bool.and_eq_true,Bool.not_eq_true',beq_eq_false_iff_ne,List.getElem?_eq_getElem hiu,Option.getD_some] at hearly
      exact .inl ⟨hearly.1,by rw [List.getElem?_eq_getElem hiu,hearly.2],rfl⟩
    | false=>
      simp only [ZaS]
      have hkd:=av.kind
      have hh3:(hs3 x s.Zad).length=c.Zad.length:=by unfold hs3;cases (x.kind == 1)<;>simp [hlh]
      have hu3:(us3 i x s.used).length=c.Zaj.length:=by unfold us3;cases (x.kind == 1)<;>simp [hlu]
      have hb3:∀ h∈hs3 x s.Zad,0≤h∧h < c.Zal:=by
        unfold hs3
        cases hk1:(x.kind == 1) with
        | true=>exact hv.hold
        | false=>
          intro h hh
          have:=hkd.resolve_left (beq_eq_false_iff_ne.1 hk1)
          rcases zbK hh with h' | h'
          · exact hv.hold h h'
          · omega
      have hus3:∀ (j:Nat) (y:Zar),c.Zaj[j]?=some y→(us3 i x s.used)[j]?=some true→y.kind≠1:=by
        unfold us3
        cases hk1:(x.kind == 1) with
        | true=>exact hv.used
        | false=>
          intro j y hy hj
          simp only [ZaS] at hj
          rw [List.getElem?_set] at hj
          by_cases hij:i=j
          · subst hij
            rw [hx] at hy;cases hy
            exact beq_eq_false_iff_ne.1 hk1
          · rw [if_neg hij] at hj;exact hv.used j y hy hj
      refine Ret.bind (P:=fun v:List Int×List Bool×List zw×Int=>v.1=hs3 x s.Zad∧v.2.1=us3 i x s.used∧v.2.2.2=s.day∧StartP c (hs3 x s.Zad) (ms3 c i x s.Zad s.Zag) v.2.2.1)
        (Ret.bind (P:=fun v:List Int×List Bool×List zw=>v.1=hs3 x s.Zad∧v.2.1=us3 i x s.used∧StartP c (hs3 x s.Zad) (ms3 c i x s.Zad s.Zag) v.2.2) (Ret.bind (Yn c s.day _ (us3 i x s.used) _ ho hv.cv hh3 hb3 (zeW ho hv.cv (by omega) av hmo)) fun r hr=>Ret.some ⟨rfl,rfl,hr⟩) fun v hv'=>Ret.some ⟨hv'.1,hv'.2.1,rfl,hv'.2.2⟩) ?_
      rintro ⟨v1,v2,v3,v4⟩ ⟨q1,q2,q3,q4⟩
      simp only at q1 q2 q3 q4
      subst q1;subst q2;subst q3
      have hl3:s.Zag.length=v3.length:=by have:=q4.ok.1;omega
      simp only [yw (show s.Zad.length=(hs3 x s.Zad).length by omega),yw (show s.used.length=(us3 i x s.used).length by omega),yw hl3,ZaT]
      refine Ret.some ⟨rfl,⟨hv.cv,hday,hh3,hu3,q4.ok.1,hb3,hus3,q4.ok.2,q4.nr⟩,fun h=>by omega,fun j y hj hy => ?_⟩
      obtain rfl:i=j:=by omega
      rw [hx] at hy;cases hy
      refine .inr ⟨?_,rfl,rfl,rfl,q4⟩
      simp only [Bool.and_eq_false_iff,Bool.not_eq_false',beq_iff_eq,List.getElem?_eq_getElem hiu,Option.getD_some] at hearly
      rcases hearly with h | h
      · exact .inl h
      · exact .inr (by rw [List.getElem?_eq_getElem hiu,h])
theorem zbL {f:Int×Int→Option ((Int×Int) ⊕ Int)} (hf0:∀ x,f (x,0)=some (.inr x)) (hf1:∀ x y:Int,0 < y→f (x,y)=some (.inl (y,x.tmod y))) (a b:Nat):iter f ((a:Int),(b:Int))=some ((Nat.gcd a b:Nat):Int):=by
  refine Ret.eq (Ret.iter (fun s=>∃ m n:Nat,s=((m:Int),(n:Int))∧Nat.gcd m n=Nat.gcd a b) (fun s=>s.2.toNat) ⟨a,b,rfl,rfl⟩ ?_)
  rintro _ ⟨m,n,rfl,h⟩
  by_cases hn:n=0
  · subst hn
    refine ⟨_,hf0 _,?_⟩
    show (m:Int)=_
    rw [←h,Nat.gcd_zero_right]
  · refine ⟨_,hf1 _ _ (by omega),⟨n,m % n,rfl,?_⟩,?_⟩
    · rw [←h,Nat.gcd_comm n,←Nat.gcd_rec,Nat.gcd_comm]
    · show ((m:Int).tmod (n:Int)).toNat < (n:Int).toNat
      have e:(m:Int).tmod (n:Int)=((m % n:Nat):Int):=rfl
      rw [e]
      have:=Nat.mod_lt m (show n > 0 by omega)
      omega
theorem zap (a b:Nat):iter (σ:=Int×Int) (ρ:=Int) (fun s2=>(bif (s2.2 == 0) then some (.inr s2.1) else (Option.bind (wb .u64 s2.1 s2.2) fun e2=>some (.inl (s2.2,e2))))) ((a:Int),(b:Int))=some ((Nat.gcd a b:Nat):Int):=
  zbL (fun x=>rfl) (fun x y h=>by
    have:(y == 0)=false:=beq_eq_false_iff_ne.2 (by omega)
    simp only [this,ZaS,wb,show ¬ y=0 by omega,if_false,ZaT]) a b
theorem zh0 (a b:Nat):iter (σ:=Int×Int) (ρ:=Int) (fun s1=>(bif decide (0 < s1.2) then (Option.bind (wb .u64 s1.1 s1.2) fun e1=>some (.inl (s1.2,e1))) else some (.inr s1.1))) ((a:Int),(b:Int))=some ((Nat.gcd a b:Nat):Int):=
  zbL (fun x=>rfl) (fun x y h=>by
    simp only [decide_eq_true h,ZaR,wb,show ¬ y=0 by omega,if_false,ZaT]) a b
theorem zc6 (a b:Nat):xA [(a:Int),(b:Int)]=some ((Nat.gcd a b:Nat):Int):=by
  refine Ret.eq ?_
  unfold xA
  refine Ret.bind (P:=fun o:Int ⊕ Unit=>o=.inl ((Nat.gcd a b:Nat):Int)) (Ret.forL (n:=2) (fun i s=>some s=[(0:Int),(a:Int),((Nat.gcd a b:Nat):Int)][i]?) (by omega) rfl (fun i s hi h => ?_) (fun s h=>by cases h;rfl)) ?_
  · match i,hi,h with
    | 0,_,h=>
      cases h
      have:=zap 0 a
      rw [Nat.gcd_zero_left] at this
      refine Ret.bind (P:=fun v=>v=(a:Int)) ?_ (fun v hv=>by rw [hv];exact Ret.some rfl)
      show Ret (Option.bind (iter _ (((0:Nat):Int),(a:Int))) _) _
      exact Ret.bindE this (Ret.some rfl)
    | 1,_,h=>
      cases h
      refine Ret.bind (P:=fun v=>v=((Nat.gcd a b:Nat):Int)) ?_ (fun v hv=>by rw [hv];exact Ret.some rfl)
      refine Ret.bindE (x:=ze [(a:Int),(b:Int)] ((1:Nat):Int)) (v:=(b:Int)) rfl ?_
      exact Ret.bindE (zap a b) (Ret.some rfl)
    | n+2,h,_=>omega
  · rintro _ rfl
    exact Ret.some rfl
theorem Jn {x:Int} (h1 : -18446744073709551616≤x) (h2:x < 0):IntKind.u64.wrap x=x+18446744073709551616:=by
  simp [IntKind.wrap,IntKind.bits,IntKind.signed]
  omega
theorem zgZ {n:Int} (h1 : -1000000000000≤n) (h2:n≤1000000000000):jH n=some ((n.natAbs:Nat):Int)∧ZO n=some ((n.natAbs:Nat):Int):=by
  unfold jH ZO
  by_cases h:n < 0
  · rw [decide_eq_true h,ZaR,ZaR,zX (x:=n+1) (by omega) (by omega),zX (x:=0 - (n+1)) (by omega) (by omega),Z5 (x:=0 - (n+1)) (by omega) (by omega),Z5 (by omega) (by omega),Jn (x:=n) (by omega) h,Jn (by omega) (by omega)]
    exact ⟨by congr 1;omega,by congr 1;omega⟩
  · rw [decide_eq_false h,ZaS,ZaS,Z5 (by omega) (by omega)]
    exact ⟨by congr 1;omega,by congr 1;omega⟩
theorem zaq (a:Ratio):vw a=some (rvB a):=by
  rw [←wQ]
  unfold vw qQ
  have g1:decide (a.den < 1)=!decide (1≤a.den):=by by_cases h:a.den < 1<;>by_cases h':1≤a.den<;>simp [h,h']<;>omega
  have g2:decide (1000000 < a.den)=!decide (a.den≤1000000):=by by_cases h:1000000 < a.den<;>by_cases h':a.den≤1000000<;>simp [h,h']<;>omega
  have g3:decide (a.num < -1000000000000)=!decide (-1000000000000≤a.num):=by by_cases h:a.num < -1000000000000<;>by_cases h' : -1000000000000≤a.num<;>simp [h,h']<;>omega
  have g4:decide (1000000000000 < a.num)=!decide (a.num≤1000000000000):=by by_cases h:1000000000000 < a.num<;>by_cases h':a.num≤1000000000000<;>simp [h,h']<;>omega
  rw [g1,g2,g3,g4]
  cases h1:decide (1≤a.den) with
  | false=>rfl
  | true=>
    cases h2:decide (a.den≤1000000) with
    | false=>rfl
    | true=>
      cases h3:decide (-1000000000000≤a.num) with
      | false=>rfl
      | true=>
        cases h4:decide (a.num≤1000000000000) with
        | false=>rfl
        | true=>
          simp only [decide_eq_true_eq] at h1 h2 h3 h4
          obtain ⟨m1,m2⟩:=zgZ h3 h4
          obtain ⟨m3,m4⟩:=zgZ (n:=a.den) (by omega) (by omega)
          simp only [ZaR,ZaI,ZaT,ZaS,m1,m2,m3,m4,zc6]
          unfold zae
          rw [zh0]
          rfl
theorem WQ {σ ρ:Type} {f g:Nat→σ→Option (σ ⊕ ρ)}:∀ (k i:Nat) (s:σ),(∀ j s,i≤j→j < i+k→f j s=g j s)→forFrom f i k s=forFrom g i k s
  | 0,i,s,h=>rfl
  | k+1,i,s,h=>by
    simp only [forFrom]
    rw [h i s (Nat.le_refl _) (by omega)]
    cases g i s with
    | none=>rfl
    | some o=>
      cases o with
      | inl s'=>exact WQ k (i+1) s' fun j s h1 h2=>h j s (by omega) (by omega)
      | inr r=>rfl
theorem zh1 {σ ρ:Type} {f g:Nat→σ→Option (σ ⊕ ρ)} {n:Nat} (hn:n < 4611686018427387904) (s:σ) (h:∀ j s,j < n→f j s=g j s):forR (n:Int) f s=forR (n:Int) g s:=by
  rw [vi (by omega),vi (by omega)]
  exact WQ _ _ _ fun j s _ h2=>h j s (by omega)
theorem zh2 (x:Int):decide (x < 1)=decide (x≤0):=by by_cases h:x < 1<;>by_cases h':x≤0<;>simp [h,h']<;>omega
theorem zgl (t:List Zau) (i:Nat) (hi:i < t.length) (ht:t.length < 1000):Qr t (i:Int)=jI t (i:Int):=by
  unfold Qr jI
  have hs:yx t 0 (i:Int)=some (t.take i):=by
    unfold yx;rw [if_pos ⟨by omega,by omega,by omega⟩];simp
  have hlen:(t.take i).length=i:=by rw [List.length_take];omega
  rw [zD (List.getElem?_eq_getElem hi)]
  simp only [ZaT]
  rw [hs]
  simp only [ZaT]
  rw [hlen]
  rw [jh (n:=i) (fun j=>match t[j]? with | some e=>!(e.name.toList == t[i].name.toList) | none=>true) (by omega) (fun j hj=>by
    have hjt:j < t.length:=by omega
    simp only [zz,List.getElem?_eq_getElem hjt,ZaT]
    cases (t[j].name.toList == t[i].name.toList)<;>rfl)]
  rw [jh (n:=i) (fun j=>match t[j]? with | some e=>!(e.name.toList == t[i].name.toList) | none=>true) (by omega) (fun j hj=>by
    have hjt:j < t.length:=by omega
    have e:(t.take i)[j]?=some t[j]:=by rw [List.getElem?_take,if_pos hj,List.getElem?_eq_getElem hjt]
    simp only [zz,e,List.getElem?_eq_getElem hjt,ZaT]
    cases (t[j].name.toList == t[i].name.toList)<;>rfl)]
  simp only [wQ,zaq,kP,ZaT,zh2]
  generalize ((List.range i).all fun j=>match t[j]? with | some e=>!(e.name.toList == t[i].name.toList) | none=>true)=nm
  generalize t[i]=e1
  generalize decide (20≤(i:Int))=b20
  generalize (e1.name.toList == (⟨#[]⟩:ByteArray).toList)=b0
  generalize rvB e1.factor=rv
  generalize decide (e1.factor.num≤0)=n0
  by_cases hb:0≤e1.base∧e1.base < t.length
  · obtain ⟨h1,h2⟩:=qm hb.1 hb.2
    rw [h2,decide_eq_true hb.1,decide_eq_true hb.2,decide_eq_false (show ¬ e1.base < 0 by omega),decide_eq_false (show ¬ (t.length:Int)≤e1.base by omega)]
    simp only [ZaT,ZaR,ZaS]
    generalize t[e1.base.toNat]=e4
    generalize (e4.kind == e1.kind)=kq
    generalize (e4.base == e1.base)=bq
    generalize (e1.base == (i:Int))=bi
    generalize (e1.factor.num == 1)=m1
    generalize (e1.factor.den == 1)=m2
    cases b20<;>try rfl
    cases b0<;>try rfl
    cases nm<;>cases (e1.kind == 1)<;>cases (e1.kind == 2)<;>cases rv<;>cases n0<;>try rfl
    all_goals (cases kq<;>cases bq<;>try rfl)
    all_goals (cases bi<;>try rfl)
    all_goals (cases m1<;>cases m2<;>rfl)
  · have e5:(bif decide (e1.base < 0) then some true else some (decide ((t.length:Int)≤e1.base)))=some true:=by
      by_cases h1:e1.base < 0
      · rw [decide_eq_true h1];rfl
      · rw [decide_eq_false h1,decide_eq_true (show (t.length:Int)≤e1.base by omega)];rfl
    have e6:(bif decide (0≤e1.base) then some (decide (e1.base < (t.length:Int))) else some false)=some false:=by
      by_cases h1:0≤e1.base
      · rw [decide_eq_true h1,decide_eq_false (show ¬ e1.base < (t.length:Int) by omega)];rfl
      · rw [decide_eq_false h1];rfl
    rw [e5,e6]
    simp only [ZaT,ZaR,ZaS]
    cases b20<;>try rfl
    cases b0<;>try rfl
    cases nm<;>cases (e1.kind == 1)<;>cases (e1.kind == 2)<;>cases rv<;>cases n0<;>rfl
theorem zgm (t:List Zau) (ht:t.length < 1000):Qs t=qA t:=by
  unfold Qs qA
  rw [zh1 (by omega) () fun j s hj=>by rw [zgl t j hj ht]]
theorem Vy (c:Zaa) (r:Int):jU c r=some (jg c.Zad.length r):=by
  simp only [jU,zh,ZaT,jg,Bool.cond_false_right]
theorem zar (c:Zaa) (p:Int):kp c p=some (decide (0≤p)&&decide (p < c.Zal)):=by
  simp only [kp,zh,ZaT,Bool.cond_false_right]
theorem zbM (a:Ratio):yO a=some (ya a):=by
  simp only [yO,zh,ZaT,ya,Bool.cond_false_right,ZaM]
theorem zbN (a:Ratio):yP a=some (Zm a):=by
  simp only [yP,zaq,zh,ZaT,Zm,Bool.cond_false_right]
  rw [Bool.and_comm]
theorem zh3 (c:Zaa) (a:Zar):JR c a=some (Zn c.Zad.length c.Zap.length c.Zal a):=by
  unfold JR Zn
  simp only [Ji,Vy,zar,zbM,zbN,ZaT]
  have hm:jg c.Zad.length a.Zax=true→(a.Zax == -1)=false:=fun h=>by
    simp only [jg,Bool.and_eq_true,decide_eq_true_eq] at h
    exact beq_eq_false_iff_ne.2 (by omega)
  generalize jg c.Zad.length a.Zax=mr at *
  generalize jg c.Zad.length a.give=mg
  generalize jg c.Zad.length a.to=mt
  generalize Zm a.lot=pb
  generalize ya a.lot=nb
  generalize decide (0≤a.to)=t0
  generalize decide (a.to < c.Zal)=t1
  generalize decide (0≤a.unit)=u0
  generalize decide (a.unit < (c.Zap.length:Int))=u1
  generalize (a.unit == -1)=un
  generalize (a.give == 0)=g0
  generalize (a.to == -1)=tn
  by_cases h1:a.kind=1
  · rw [beq_iff_eq.2 h1,beq_eq_false_iff_ne.2 (show a.kind≠2 by omega),beq_eq_false_iff_ne.2 (show a.kind≠3 by omega)]
    cases mr with
    | true=>
      rw [hm rfl]
      cases g0<;>try rfl
      cases tn<;>cases mt<;>try rfl
      all_goals (cases un<;>cases nb<;>try rfl)
      all_goals (cases u0<;>cases u1<;>cases pb<;>rfl)
    | false=>
      cases (a.Zax == -1)<;>cases g0<;>try rfl
      all_goals (cases tn<;>cases mt<;>try rfl)
      all_goals (cases un<;>cases nb<;>try rfl)
      all_goals (cases u0<;>cases u1<;>cases pb<;>rfl)
  · by_cases h2:a.kind=2∨a.kind=3
    · have e:((a.kind == 2)||(a.kind == 3))=true:=by
        rcases h2 with h | h
        · rw [h];rfl
        · rw [h];rfl
      have e2:(bif a.kind == 2 then some true else some (a.kind == 3))=some true:=by
        rcases h2 with h | h
        · rw [h];rfl
        · rw [h];rfl
      rw [beq_eq_false_iff_ne.2 h1,e,e2]
      cases mr<;>cases mg<;>cases t0<;>cases t1<;>cases un<;>cases nb<;>rfl
    · rw [beq_eq_false_iff_ne.2 h1,beq_eq_false_iff_ne.2 (show a.kind≠2 by omega),beq_eq_false_iff_ne.2 (show a.kind≠3 by omega)]
      cases mr<;>rfl
theorem zgn (c:Zaa) (ho:c.off.length < 4611686018427387904):kx c.Zas c.off=xO c.Zas (-1) c.off:=by
  unfold kx
  rw [zcK c.Zas c.off ho (-1)]
  cases xO c.Zas (-1) c.off<;>rfl
theorem zas {l:List Int} (h:∀ (i:Nat) (hi:i+1 < l.length),l[i] < l[i+1]):l.Pairwise (· < ·):=by
  have key:∀ (d i:Nat) (hj:i+d+1 < l.length),l[i] < l[i+d+1]:=by
    intro d
    induction d with
    | zero=>exact fun i hj=>h i hj
    | succ d ih=>
      intro i hj
      have h1:=ih i (by omega)
      have h2:=h (i+d+1) (by omega)
      have e:i+(d+1)+1=i+d+1+1:=by omega
      simp only [e]
      omega
  rw [List.pairwise_iff_getElem]
  intro i j hi hj hij
  obtain ⟨d,rfl⟩:∃ d,j=i+d+1:=⟨j - i - 1,by omega⟩
  exact key d i hj
def zat (Zas:Int) (l:List Int) (i:Nat):Bool:=match l[i]? with
  | some x=>!(decide (x < 0)||(decide (Zas≤x)||(decide (0 < (i:Int))&&(match l[i - 1]? with | some y=>decide (x≤y) | none=>true))))
  | none=>true
theorem zjE (Zas:Int) (l:List Int):(List.range l.length).all (zat Zas l)=xO Zas (-1) l:=by
  rw [Bool.eq_iff_iff,List.all_eq_true]
  constructor
  · intro h
    have h':∀ (i:Nat) (hi:i < l.length),0≤l[i]∧l[i] < Zas∧∀ (k:Nat) (hk:k < l.length),i=k+1→l[k] < l[i]:=fun i hi=>by
      have:=h i (List.mem_range.2 hi)
      unfold zat at this
      rw [List.getElem?_eq_getElem hi] at this
      simp only [Bool.not_eq_true',Bool.or_eq_false_iff,decide_eq_false_iff_not,Bool.and_eq_false_iff] at this
      obtain ⟨a1,a2,a3⟩:=this
      refine ⟨by omega,by omega,fun k hk e => ?_⟩
      subst e
      rcases a3 with a3 | a3
      · omega
      · rw [show k+1 - 1=k by omega,List.getElem?_eq_getElem hk] at a3
        have:=of_decide_eq_false a3
        omega
    refine zbv (fun x hx => ?_) (zas fun i hi=>(h' (i+1) hi).2.2 i (by omega) rfl)
    obtain ⟨i,hi,rfl⟩:=List.getElem_of_mem hx
    have:=h' i hi
    omega
  · intro h i hi
    obtain ⟨h1,h2⟩:=Q9 h
    have hi:=List.mem_range.1 hi
    have hx:=h1 _ (List.getElem_mem hi)
    unfold zat
    rw [List.getElem?_eq_getElem hi]
    simp only [Bool.not_eq_true',Bool.or_eq_false_iff,decide_eq_false_iff_not,Bool.and_eq_false_iff]
    refine ⟨by omega,by omega,?_⟩
    by_cases h0:0 < (i:Int)
    · right
      rw [List.getElem?_eq_getElem (show i - 1 < l.length by omega)]
      have:=(List.pairwise_iff_getElem.1 h2) (i - 1) i (by omega) hi (by omega)
      exact decide_eq_false (by omega)
    · exact .inl h0
theorem zh4 (c:Zaa) (hh:c.Zad.length < 4611686018427387904) (hu:c.Zap.length < 1000) (ha:c.Zaj.length < 1000) (ho:c.off.length < 4611686018427387904):JS c=some (q6 c):=by
  unfold JS q6
  obtain ⟨k,hk⟩:=kY c.Zap hu
  rw [zgm c.Zap hu,hk]
  simp only [ZaT]
  rw [qR (l:=c.Zad) (fun h=>decide (0≤h)&&decide (h < c.Zal)) hh (fun i hi=>by
    simp only [zz,List.getElem?_eq_getElem hi,ZaT,zar,zh])]
  rw [qR (l:=c.Zaj) (Zn c.Zad.length c.Zap.length c.Zal) (by omega) (fun i hi=>by
    simp only [zz,List.getElem?_eq_getElem hi,ZaT,zh3,zh])]
  rw [jh (n:=c.off.length) (zat c.Zas c.off) ho (fun i hi=>by
    simp only [zz,List.getElem?_eq_getElem hi,ZaT,zat]
    by_cases h0:0 < i
    · have e:IntKind.i64.wrap ((i:Int) - 1)=((i - 1:Nat):Int):=by rw [zX (by omega) (by omega)];omega
      have h1:i - 1 < c.off.length:=by omega
      rw [e]
      simp only [zz,List.getElem?_eq_getElem h1,ZaT,decide_eq_true (show (0:Int) < (i:Int) by omega)]
      cases decide (c.off[i] < 0)<;>cases decide (c.Zas≤c.off[i])<;>cases decide (c.off[i]≤c.off[i - 1])<;>rfl
    · rw [decide_eq_false (show ¬ (0:Int) < (i:Int) by omega)]
      cases decide (c.off[i] < 0)<;>cases decide (c.Zas≤c.off[i])<;>rfl)]
  rw [zjE,←zgn c ho]
  have e0:decide ((c.Zad.length:Int) < 1)=((c.Zad.length:Int) == 0):=by
    by_cases h:(c.Zad.length:Int) < 1
    · rw [decide_eq_true h,beq_iff_eq.2 (show (c.Zad.length:Int)=0 by omega)]
    · rw [decide_eq_false h,beq_eq_false_iff_ne.2 (show (c.Zad.length:Int)≠0 by omega)]
  rw [e0,show (c.Zad.all fun h=>decide (0≤h)&&decide (h < c.Zal))=x9 c.Zal c.Zad from rfl]
  cases quB c.Zap<;>cases decide (c.Zal < 1)<;>cases decide (c.Zas < 1)<;>cases ((c.Zad.length:Int) == 0)<;>try rfl
  all_goals (cases x9 c.Zal c.Zad<;>try rfl)
  all_goals (cases c.Zaj.all (Zn c.Zad.length c.Zap.length c.Zal)<;>try rfl)
  all_goals (cases kx c.Zas c.off<;>rfl)
theorem zc7 (c:Zaa) (a:Int):jE c a=some (j8 c.Zaj a):=by
  unfold jE ZP j8
  by_cases h:0≤a∧a < c.Zaj.length
  · obtain ⟨h1,h2⟩:=qm h.1 h.2
    simp only [h2,h.1,h.2,decide_true,ZaR,ZaT,zh,Bool.cond_false_right,ZaK]
  · rw [Qh h]
    by_cases h1:0≤a
    · have:¬ a < c.Zaj.length:=fun h2=>h ⟨h1,h2⟩
      simp only [h1,this,decide_true,decide_false,ZaR,ZaS,ZaT]
    · simp only [h1,decide_false,ZaS,ZaT]
theorem xd (a b:Int):decide (a≤b)=!decide (b < a):=by by_cases h:a≤b<;>by_cases h':b < a<;>simp [h,h']<;>omega
theorem zeX (c:Zaa) (i:Nat) (k:Zan) (hk:c.Zaf[i]?=some k) (hs:k.start.length < 4611686018427387904):kT c (i:Int)=some (xj c.Zad.length c.Zap c.Zaj c.Zaf.length i k):=by
  unfold kT
  rw [zD hk]
  simp only [ZaT]
  have hst:=qR (l:=k.start) (f:=(fun i1 s1=>(Option.bind (ze k.start (i1:Int)) fun e2=>(Option.bind (bif decide (e2.clause < 0) then some true else (bif decide ((c.Zaf.length:Int)≤e2.clause) then some true else (bif (e2.clause == (i:Int)) then some true else (bif decide (e2.is < 1) then some true else some (decide (4 < e2.is)))))) fun v3=>(bif v3 then some (.inr ()) else some (.inl ())))))) (yF c.Zaf.length i) hs (fun j hj=>by
    simp only [zz,List.getElem?_eq_getElem hj,ZaT,zh,yF]
    cases decide (k.start[j].clause < 0)<;>cases decide ((c.Zaf.length:Int)≤k.start[j].clause)<;>cases (k.start[j].clause == (i:Int))<;>cases decide (k.start[j].is < 1)<;>cases decide (4 < k.start[j].is)<;>rfl)
  rw [hst]
  have hu:(bif decide (0≤k.unit) then (bif decide (k.unit < (c.Zap.length:Int)) then (Option.bind (ze c.Zap k.unit) fun e3=>(bif (e3.kind == 2) then (Option.bind (yP k.value) fun r9=>(bif r9 then (Option.bind (jU c k.to) fun r10=>some r10) else some false)) else some false)) else some false) else some false) =
      some ((match ze c.Zap k.unit with | some u=>u.kind == 2 | none=>false)&&(Zm k.value&&jg c.Zad.length k.to)):=by
    by_cases h:0≤k.unit∧k.unit < c.Zap.length
    · obtain ⟨h1,h2⟩:=qm h.1 h.2
      simp only [h2,h.1,h.2,decide_true,ZaR,ZaT,zh,Bool.cond_false_right,zbN,Vy]
    · rw [Qh h]
      by_cases h1:0≤k.unit
      · have:¬ k.unit < c.Zap.length:=fun h2=>h ⟨h1,h2⟩
        simp only [h1,this,decide_true,decide_false,ZaR,ZaS,ZaL]
      · simp only [h1,decide_false,ZaS,ZaL]
  rw [hu]
  unfold xj zak
  simp only [ZP,zc7,Vy,zbM,ZaT]
  generalize ((match ze c.Zap k.unit with | some u=>u.kind == 2 | none=>false)&&(Zm k.value&&jg c.Zad.length k.to))=mo
  have hp:(bif (k.pause == (-1)) then (bif (k.ZaG == (-1)) then some false else (bif j8 c.Zaj k.pause then (bif j8 c.Zaj k.ZaG then some (k.pause == k.ZaG) else some true) else some true)) else (bif j8 c.Zaj k.pause then (bif j8 c.Zaj k.ZaG then some (k.pause == k.ZaG) else some true) else some true))=some (!wR c.Zaj k):=by
    unfold wR
    cases (k.pause == -1)<;>cases (k.ZaG == -1)<;>cases j8 c.Zaj k.pause<;>cases j8 c.Zaj k.ZaG<;>cases (k.pause == k.ZaG)<;>rfl
  rw [hp]
  simp only [ZaT]
  generalize wR c.Zaj k=pz
  generalize (k.unit == -1)=un
  generalize hst':k.start.all (yF c.Zaf.length i)=st
  generalize decide (8 < (k.start.length:Int))=s8
  generalize ya k.value=nv
  generalize (k.to == -1)=tn
  rw [xd 0 k.act]
  have ea:decide (k.act < (c.Zaj.length:Int))=!decide ((c.Zaj.length:Int)≤k.act):=by rw [xd,Bool.not_not]
  rw [ea]
  unfold JY
  rw [xd 1 k.need,xd k.need 9,xd 0 k.ZaA,xd k.ZaA 400]
  generalize decide (k.act < 0)=a1
  generalize decide ((c.Zaj.length:Int)≤k.act)=a2
  generalize decide (k.after < 1)=q1
  generalize decide (400 < k.after)=q2
  generalize jg c.Zad.length k.Zax=mr
  generalize j8 c.Zaj k.act=na
  generalize (k.Zax == -1)=rn
  generalize k.final=fi
  by_cases k1:k.kind=1
  · rw [k1]
    simp only [show ((1:Int) == 1)=true from rfl,show ((1:Int) == 2)=false from rfl,show ((1:Int) == 3)=false from rfl,show ((1:Int) == 4)=false from rfl,show decide ((1:Int) < 1)=false from rfl,show decide ((4:Int) < 1)=false from rfl,show decide ((2:Int) < 1)=false from rfl,show decide ((1:Int)≤2)=true from rfl,ZaR,ZaS,ZaI,ZaJ,ZaK,ZaL,ZaM,ZaN,ZaO,ZaP,ZaT,ZaU,ZaV,ZaQ]
    generalize decide (k.need < 1)=n1
    generalize decide (9 < k.need)=n2
    generalize decide (k.ZaA < 0)=g1
    generalize decide (400 < k.ZaA)=g2
    (cases a1<;>try simp only [ZaR,ZaS,ZaI,ZaJ,ZaK,ZaL,ZaM,ZaN,ZaO,ZaP,ZaT,ZaU,ZaV,ZaQ])
    all_goals (cases a2<;>try simp only [ZaR,ZaS,ZaI,ZaJ,ZaK,ZaL,ZaM,ZaN,ZaO,ZaP,ZaT,ZaU,ZaV,ZaQ])
    all_goals (cases s8<;>try simp only [ZaR,ZaS,ZaI,ZaJ,ZaK,ZaL,ZaM,ZaN,ZaO,ZaP,ZaT,ZaU,ZaV,ZaQ])
    all_goals (cases q1<;>try simp only [ZaR,ZaS,ZaI,ZaJ,ZaK,ZaL,ZaM,ZaN,ZaO,ZaP,ZaT,ZaU,ZaV,ZaQ])
    all_goals (cases q2<;>try simp only [ZaR,ZaS,ZaI,ZaJ,ZaK,ZaL,ZaM,ZaN,ZaO,ZaP,ZaT,ZaU,ZaV,ZaQ])
    all_goals (cases g1<;>try simp only [ZaR,ZaS,ZaI,ZaJ,ZaK,ZaL,ZaM,ZaN,ZaO,ZaP,ZaT,ZaU,ZaV,ZaQ])
    all_goals (cases g2<;>try simp only [ZaR,ZaS,ZaI,ZaJ,ZaK,ZaL,ZaM,ZaN,ZaO,ZaP,ZaT,ZaU,ZaV,ZaQ])
    all_goals (cases n1<;>try simp only [ZaR,ZaS,ZaI,ZaJ,ZaK,ZaL,ZaM,ZaN,ZaO,ZaP,ZaT,ZaU,ZaV,ZaQ])
    all_goals (cases n2<;>try simp only [ZaR,ZaS,ZaI,ZaJ,ZaK,ZaL,ZaM,ZaN,ZaO,ZaP,ZaT,ZaU,ZaV,ZaQ])
    all_goals (cases mr<;>try simp only [ZaR,ZaS,ZaI,ZaJ,ZaK,ZaL,ZaM,ZaN,ZaO,ZaP,ZaT,ZaU,ZaV,ZaQ])
    all_goals (cases na<;>try simp only [ZaR,ZaS,ZaI,ZaJ,ZaK,ZaL,ZaM,ZaN,ZaO,ZaP,ZaT,ZaU,ZaV,ZaQ])
    all_goals (cases fi<;>try simp only [ZaR,ZaS,ZaI,ZaJ,ZaK,ZaL,ZaM,ZaN,ZaO,ZaP,ZaT,ZaU,ZaV,ZaQ])
    all_goals (cases st<;>try simp only [ZaR,ZaS,ZaI,ZaJ,ZaK,ZaL,ZaM,ZaN,ZaO,ZaP,ZaT,ZaU,ZaV,ZaQ])
    all_goals (cases pz<;>try simp only [ZaR,ZaS,ZaI,ZaJ,ZaK,ZaL,ZaM,ZaN,ZaO,ZaP,ZaT,ZaU,ZaV,ZaQ])
    all_goals (cases un<;>try simp only [ZaR,ZaS,ZaI,ZaJ,ZaK,ZaL,ZaM,ZaN,ZaO,ZaP,ZaT,ZaU,ZaV,ZaQ])
    all_goals (cases nv<;>try simp only [ZaR,ZaS,ZaI,ZaJ,ZaK,ZaL,ZaM,ZaN,ZaO,ZaP,ZaT,ZaU,ZaV,ZaQ])
    all_goals (cases tn<;>try simp only [ZaR,ZaS,ZaI,ZaJ,ZaK,ZaL,ZaM,ZaN,ZaO,ZaP,ZaT,ZaU,ZaV,ZaQ])
  by_cases k2:k.kind=2
  · rw [k2]
    simp only [show ((2:Int) == 1)=false from rfl,show ((2:Int) == 2)=true from rfl,show ((2:Int) == 3)=false from rfl,show ((2:Int) == 4)=false from rfl,show decide ((2:Int) < 1)=false from rfl,show decide ((4:Int) < 2)=false from rfl,show decide ((2:Int) < 2)=false from rfl,show decide ((2:Int)≤2)=true from rfl,ZaR,ZaS,ZaI,ZaJ,ZaK,ZaL,ZaM,ZaN,ZaO,ZaP,ZaT,ZaU,ZaV,ZaQ]
    by_cases hn:k.need=1
    · rw [beq_iff_eq.2 hn,decide_eq_false (show ¬ k.need < 1 by omega),decide_eq_false (show ¬ 9 < k.need by omega)]
      by_cases hg:k.ZaA=0
      · rw [beq_iff_eq.2 hg,decide_eq_false (show ¬ k.ZaA < 0 by omega),decide_eq_false (show ¬ 400 < k.ZaA by omega)]
        simp only [ZaR,ZaS,ZaI,ZaJ,ZaK,ZaL,ZaM,ZaN,ZaO,ZaP,ZaT,ZaU,ZaV,ZaQ]
        (cases a1<;>try simp only [ZaR,ZaS,ZaI,ZaJ,ZaK,ZaL,ZaM,ZaN,ZaO,ZaP,ZaT,ZaU,ZaV,ZaQ])
        all_goals (cases a2<;>try simp only [ZaR,ZaS,ZaI,ZaJ,ZaK,ZaL,ZaM,ZaN,ZaO,ZaP,ZaT,ZaU,ZaV,ZaQ])
        all_goals (cases s8<;>try simp only [ZaR,ZaS,ZaI,ZaJ,ZaK,ZaL,ZaM,ZaN,ZaO,ZaP,ZaT,ZaU,ZaV,ZaQ])
        all_goals (cases q1<;>try simp only [ZaR,ZaS,ZaI,ZaJ,ZaK,ZaL,ZaM,ZaN,ZaO,ZaP,ZaT,ZaU,ZaV,ZaQ])
        all_goals (cases q2<;>try simp only [ZaR,ZaS,ZaI,ZaJ,ZaK,ZaL,ZaM,ZaN,ZaO,ZaP,ZaT,ZaU,ZaV,ZaQ])
        all_goals (cases mr<;>try simp only [ZaR,ZaS,ZaI,ZaJ,ZaK,ZaL,ZaM,ZaN,ZaO,ZaP,ZaT,ZaU,ZaV,ZaQ])
        all_goals (cases na<;>try simp only [ZaR,ZaS,ZaI,ZaJ,ZaK,ZaL,ZaM,ZaN,ZaO,ZaP,ZaT,ZaU,ZaV,ZaQ])
        all_goals (cases fi<;>try simp only [ZaR,ZaS,ZaI,ZaJ,ZaK,ZaL,ZaM,ZaN,ZaO,ZaP,ZaT,ZaU,ZaV,ZaQ])
        all_goals (cases st<;>try simp only [ZaR,ZaS,ZaI,ZaJ,ZaK,ZaL,ZaM,ZaN,ZaO,ZaP,ZaT,ZaU,ZaV,ZaQ])
        all_goals (cases pz<;>try simp only [ZaR,ZaS,ZaI,ZaJ,ZaK,ZaL,ZaM,ZaN,ZaO,ZaP,ZaT,ZaU,ZaV,ZaQ])
        all_goals (cases un<;>try simp only [ZaR,ZaS,ZaI,ZaJ,ZaK,ZaL,ZaM,ZaN,ZaO,ZaP,ZaT,ZaU,ZaV,ZaQ])
        all_goals (cases nv<;>try simp only [ZaR,ZaS,ZaI,ZaJ,ZaK,ZaL,ZaM,ZaN,ZaO,ZaP,ZaT,ZaU,ZaV,ZaQ])
        all_goals (cases tn<;>try simp only [ZaR,ZaS,ZaI,ZaJ,ZaK,ZaL,ZaM,ZaN,ZaO,ZaP,ZaT,ZaU,ZaV,ZaQ])
      · rw [beq_eq_false_iff_ne.2 hg]
        simp only [ZaR,ZaS,ZaI,ZaJ,ZaK,ZaL,ZaM,ZaN,ZaO,ZaP,ZaT,ZaU,ZaV,ZaQ]
        generalize decide (k.ZaA < 0)=g1
        generalize decide (400 < k.ZaA)=g2
        (cases a1<;>try simp only [ZaR,ZaS,ZaI,ZaJ,ZaK,ZaL,ZaM,ZaN,ZaO,ZaP,ZaT,ZaU,ZaV,ZaQ])
        all_goals (cases a2<;>try simp only [ZaR,ZaS,ZaI,ZaJ,ZaK,ZaL,ZaM,ZaN,ZaO,ZaP,ZaT,ZaU,ZaV,ZaQ])
        all_goals (cases s8<;>try simp only [ZaR,ZaS,ZaI,ZaJ,ZaK,ZaL,ZaM,ZaN,ZaO,ZaP,ZaT,ZaU,ZaV,ZaQ])
        all_goals (cases q1<;>try simp only [ZaR,ZaS,ZaI,ZaJ,ZaK,ZaL,ZaM,ZaN,ZaO,ZaP,ZaT,ZaU,ZaV,ZaQ])
        all_goals (cases q2<;>try simp only [ZaR,ZaS,ZaI,ZaJ,ZaK,ZaL,ZaM,ZaN,ZaO,ZaP,ZaT,ZaU,ZaV,ZaQ])
        all_goals (cases g1<;>try simp only [ZaR,ZaS,ZaI,ZaJ,ZaK,ZaL,ZaM,ZaN,ZaO,ZaP,ZaT,ZaU,ZaV,ZaQ])
        all_goals (cases g2<;>try simp only [ZaR,ZaS,ZaI,ZaJ,ZaK,ZaL,ZaM,ZaN,ZaO,ZaP,ZaT,ZaU,ZaV,ZaQ])
        all_goals (cases mr<;>try simp only [ZaR,ZaS,ZaI,ZaJ,ZaK,ZaL,ZaM,ZaN,ZaO,ZaP,ZaT,ZaU,ZaV,ZaQ])
        all_goals (cases na<;>try simp only [ZaR,ZaS,ZaI,ZaJ,ZaK,ZaL,ZaM,ZaN,ZaO,ZaP,ZaT,ZaU,ZaV,ZaQ])
    · rw [beq_eq_false_iff_ne.2 hn]
      simp only [ZaR,ZaS,ZaI,ZaJ,ZaK,ZaL,ZaM,ZaN,ZaO,ZaP,ZaT,ZaU,ZaV,ZaQ]
      generalize decide (k.need < 1)=n1
      generalize decide (9 < k.need)=n2
      generalize decide (k.ZaA < 0)=g1
      generalize decide (400 < k.ZaA)=g2
      (cases a1<;>try simp only [ZaR,ZaS,ZaI,ZaJ,ZaK,ZaL,ZaM,ZaN,ZaO,ZaP,ZaT,ZaU,ZaV,ZaQ])
      all_goals (cases a2<;>try simp only [ZaR,ZaS,ZaI,ZaJ,ZaK,ZaL,ZaM,ZaN,ZaO,ZaP,ZaT,ZaU,ZaV,ZaQ])
      all_goals (cases s8<;>try simp only [ZaR,ZaS,ZaI,ZaJ,ZaK,ZaL,ZaM,ZaN,ZaO,ZaP,ZaT,ZaU,ZaV,ZaQ])
      all_goals (cases q1<;>try simp only [ZaR,ZaS,ZaI,ZaJ,ZaK,ZaL,ZaM,ZaN,ZaO,ZaP,ZaT,ZaU,ZaV,ZaQ])
      all_goals (cases q2<;>try simp only [ZaR,ZaS,ZaI,ZaJ,ZaK,ZaL,ZaM,ZaN,ZaO,ZaP,ZaT,ZaU,ZaV,ZaQ])
      all_goals (cases g1<;>try simp only [ZaR,ZaS,ZaI,ZaJ,ZaK,ZaL,ZaM,ZaN,ZaO,ZaP,ZaT,ZaU,ZaV,ZaQ])
      all_goals (cases g2<;>try simp only [ZaR,ZaS,ZaI,ZaJ,ZaK,ZaL,ZaM,ZaN,ZaO,ZaP,ZaT,ZaU,ZaV,ZaQ])
      all_goals (cases n1<;>try simp only [ZaR,ZaS,ZaI,ZaJ,ZaK,ZaL,ZaM,ZaN,ZaO,ZaP,ZaT,ZaU,ZaV,ZaQ])
      all_goals (cases n2<;>try simp only [ZaR,ZaS,ZaI,ZaJ,ZaK,ZaL,ZaM,ZaN,ZaO,ZaP,ZaT,ZaU,ZaV,ZaQ])
      all_goals (cases mr<;>try simp only [ZaR,ZaS,ZaI,ZaJ,ZaK,ZaL,ZaM,ZaN,ZaO,ZaP,ZaT,ZaU,ZaV,ZaQ])
      all_goals (cases na<;>try simp only [ZaR,ZaS,ZaI,ZaJ,ZaK,ZaL,ZaM,ZaN,ZaO,ZaP,ZaT,ZaU,ZaV,ZaQ])
  by_cases k3:k.kind=3
  · rw [k3]
    simp only [show ((3:Int) == 1)=false from rfl,show ((3:Int) == 2)=false from rfl,show ((3:Int) == 3)=true from rfl,show ((3:Int) == 4)=false from rfl,show decide ((3:Int) < 1)=false from rfl,show decide ((4:Int) < 3)=false from rfl,show decide ((2:Int) < 3)=true from rfl,show decide ((3:Int)≤2)=false from rfl,ZaR,ZaS,ZaI,ZaJ,ZaK,ZaL,ZaM,ZaN,ZaO,ZaP,ZaT,ZaU,ZaV,ZaQ]
    by_cases hn:k.need=1
    · rw [beq_iff_eq.2 hn,decide_eq_false (show ¬ k.need < 1 by omega),decide_eq_false (show ¬ 9 < k.need by omega)]
      by_cases hg:k.ZaA=0
      · rw [beq_iff_eq.2 hg,decide_eq_false (show ¬ k.ZaA < 0 by omega),decide_eq_false (show ¬ 400 < k.ZaA by omega)]
        simp only [ZaR,ZaS,ZaI,ZaJ,ZaK,ZaL,ZaM,ZaN,ZaO,ZaP,ZaT,ZaU,ZaV,ZaQ]
        (cases a1<;>try simp only [ZaR,ZaS,ZaI,ZaJ,ZaK,ZaL,ZaM,ZaN,ZaO,ZaP,ZaT,ZaU,ZaV,ZaQ])
        all_goals (cases a2<;>try simp only [ZaR,ZaS,ZaI,ZaJ,ZaK,ZaL,ZaM,ZaN,ZaO,ZaP,ZaT,ZaU,ZaV,ZaQ])
        all_goals (cases s8<;>try simp only [ZaR,ZaS,ZaI,ZaJ,ZaK,ZaL,ZaM,ZaN,ZaO,ZaP,ZaT,ZaU,ZaV,ZaQ])
        all_goals (cases q1<;>try simp only [ZaR,ZaS,ZaI,ZaJ,ZaK,ZaL,ZaM,ZaN,ZaO,ZaP,ZaT,ZaU,ZaV,ZaQ])
        all_goals (cases q2<;>try simp only [ZaR,ZaS,ZaI,ZaJ,ZaK,ZaL,ZaM,ZaN,ZaO,ZaP,ZaT,ZaU,ZaV,ZaQ])
        all_goals (cases mr<;>try simp only [ZaR,ZaS,ZaI,ZaJ,ZaK,ZaL,ZaM,ZaN,ZaO,ZaP,ZaT,ZaU,ZaV,ZaQ])
        all_goals (cases na<;>try simp only [ZaR,ZaS,ZaI,ZaJ,ZaK,ZaL,ZaM,ZaN,ZaO,ZaP,ZaT,ZaU,ZaV,ZaQ])
        all_goals (cases fi<;>try simp only [ZaR,ZaS,ZaI,ZaJ,ZaK,ZaL,ZaM,ZaN,ZaO,ZaP,ZaT,ZaU,ZaV,ZaQ])
        all_goals (cases st<;>try simp only [ZaR,ZaS,ZaI,ZaJ,ZaK,ZaL,ZaM,ZaN,ZaO,ZaP,ZaT,ZaU,ZaV,ZaQ])
        all_goals (cases pz<;>try simp only [ZaR,ZaS,ZaI,ZaJ,ZaK,ZaL,ZaM,ZaN,ZaO,ZaP,ZaT,ZaU,ZaV,ZaQ])
        all_goals (cases un<;>try simp only [ZaR,ZaS,ZaI,ZaJ,ZaK,ZaL,ZaM,ZaN,ZaO,ZaP,ZaT,ZaU,ZaV,ZaQ])
        all_goals (cases nv<;>try simp only [ZaR,ZaS,ZaI,ZaJ,ZaK,ZaL,ZaM,ZaN,ZaO,ZaP,ZaT,ZaU,ZaV,ZaQ])
        all_goals (cases tn<;>try simp only [ZaR,ZaS,ZaI,ZaJ,ZaK,ZaL,ZaM,ZaN,ZaO,ZaP,ZaT,ZaU,ZaV,ZaQ])
      · rw [beq_eq_false_iff_ne.2 hg]
        simp only [ZaR,ZaS,ZaI,ZaJ,ZaK,ZaL,ZaM,ZaN,ZaO,ZaP,ZaT,ZaU,ZaV,ZaQ]
        generalize decide (k.ZaA < 0)=g1
        generalize decide (400 < k.ZaA)=g2
        (cases a1<;>try simp only [ZaR,ZaS,ZaI,ZaJ,ZaK,ZaL,ZaM,ZaN,ZaO,ZaP,ZaT,ZaU,ZaV,ZaQ])
        all_goals (cases a2<;>try simp only [ZaR,ZaS,ZaI,ZaJ,ZaK,ZaL,ZaM,ZaN,ZaO,ZaP,ZaT,ZaU,ZaV,ZaQ])
        all_goals (cases s8<;>try simp only [ZaR,ZaS,ZaI,ZaJ,ZaK,ZaL,ZaM,ZaN,ZaO,ZaP,ZaT,ZaU,ZaV,ZaQ])
        all_goals (cases q1<;>try simp only [ZaR,ZaS,ZaI,ZaJ,ZaK,ZaL,ZaM,ZaN,ZaO,ZaP,ZaT,ZaU,ZaV,ZaQ])
        all_goals (cases q2<;>try simp only [ZaR,ZaS,ZaI,ZaJ,ZaK,ZaL,ZaM,ZaN,ZaO,ZaP,ZaT,ZaU,ZaV,ZaQ])
        all_goals (cases g1<;>try simp only [ZaR,ZaS,ZaI,ZaJ,ZaK,ZaL,ZaM,ZaN,ZaO,ZaP,ZaT,ZaU,ZaV,ZaQ])
        all_goals (cases g2<;>try simp only [ZaR,ZaS,ZaI,ZaJ,ZaK,ZaL,ZaM,ZaN,ZaO,ZaP,ZaT,ZaU,ZaV,ZaQ])
        all_goals (cases mr<;>try simp only [ZaR,ZaS,ZaI,ZaJ,ZaK,ZaL,ZaM,ZaN,ZaO,ZaP,ZaT,ZaU,ZaV,ZaQ])
        all_goals (cases na<;>try simp only [ZaR,ZaS,ZaI,ZaJ,ZaK,ZaL,ZaM,ZaN,ZaO,ZaP,ZaT,ZaU,ZaV,ZaQ])
    · rw [beq_eq_false_iff_ne.2 hn]
      simp only [ZaR,ZaS,ZaI,ZaJ,ZaK,ZaL,ZaM,ZaN,ZaO,ZaP,ZaT,ZaU,ZaV,ZaQ]
      generalize decide (k.need < 1)=n1
      generalize decide (9 < k.need)=n2
      generalize decide (k.ZaA < 0)=g1
      generalize decide (400 < k.ZaA)=g2
      (cases a1<;>try simp only [ZaR,ZaS,ZaI,ZaJ,ZaK,ZaL,ZaM,ZaN,ZaO,ZaP,ZaT,ZaU,ZaV,ZaQ])
      all_goals (cases a2<;>try simp only [ZaR,ZaS,ZaI,ZaJ,ZaK,ZaL,ZaM,ZaN,ZaO,ZaP,ZaT,ZaU,ZaV,ZaQ])
      all_goals (cases s8<;>try simp only [ZaR,ZaS,ZaI,ZaJ,ZaK,ZaL,ZaM,ZaN,ZaO,ZaP,ZaT,ZaU,ZaV,ZaQ])
      all_goals (cases q1<;>try simp only [ZaR,ZaS,ZaI,ZaJ,ZaK,ZaL,ZaM,ZaN,ZaO,ZaP,ZaT,ZaU,ZaV,ZaQ])
      all_goals (cases q2<;>try simp only [ZaR,ZaS,ZaI,ZaJ,ZaK,ZaL,ZaM,ZaN,ZaO,ZaP,ZaT,ZaU,ZaV,ZaQ])
      all_goals (cases g1<;>try simp only [ZaR,ZaS,ZaI,ZaJ,ZaK,ZaL,ZaM,ZaN,ZaO,ZaP,ZaT,ZaU,ZaV,ZaQ])
      all_goals (cases g2<;>try simp only [ZaR,ZaS,ZaI,ZaJ,ZaK,ZaL,ZaM,ZaN,ZaO,ZaP,ZaT,ZaU,ZaV,ZaQ])
      all_goals (cases n1<;>try simp only [ZaR,ZaS,ZaI,ZaJ,ZaK,ZaL,ZaM,ZaN,ZaO,ZaP,ZaT,ZaU,ZaV,ZaQ])
      all_goals (cases n2<;>try simp only [ZaR,ZaS,ZaI,ZaJ,ZaK,ZaL,ZaM,ZaN,ZaO,ZaP,ZaT,ZaU,ZaV,ZaQ])
      all_goals (cases mr<;>try simp only [ZaR,ZaS,ZaI,ZaJ,ZaK,ZaL,ZaM,ZaN,ZaO,ZaP,ZaT,ZaU,ZaV,ZaQ])
      all_goals (cases na<;>try simp only [ZaR,ZaS,ZaI,ZaJ,ZaK,ZaL,ZaM,ZaN,ZaO,ZaP,ZaT,ZaU,ZaV,ZaQ])
  by_cases k4:k.kind=4
  · rw [k4]
    simp only [show ((4:Int) == 1)=false from rfl,show ((4:Int) == 2)=false from rfl,show ((4:Int) == 3)=false from rfl,show ((4:Int) == 4)=true from rfl,show decide ((4:Int) < 1)=false from rfl,show decide ((4:Int) < 4)=false from rfl,show decide ((2:Int) < 4)=true from rfl,show decide ((4:Int)≤2)=false from rfl,ZaR,ZaS,ZaI,ZaJ,ZaK,ZaL,ZaM,ZaN,ZaO,ZaP,ZaT,ZaU,ZaV,ZaQ]
    by_cases hn:k.need=1
    · rw [beq_iff_eq.2 hn,decide_eq_false (show ¬ k.need < 1 by omega),decide_eq_false (show ¬ 9 < k.need by omega)]
      by_cases hg:k.ZaA=0
      · rw [beq_iff_eq.2 hg,decide_eq_false (show ¬ k.ZaA < 0 by omega),decide_eq_false (show ¬ 400 < k.ZaA by omega)]
        simp only [ZaR,ZaS,ZaI,ZaJ,ZaK,ZaL,ZaM,ZaN,ZaO,ZaP,ZaT,ZaU,ZaV,ZaQ]
        (cases a1<;>try simp only [ZaR,ZaS,ZaI,ZaJ,ZaK,ZaL,ZaM,ZaN,ZaO,ZaP,ZaT,ZaU,ZaV,ZaQ])
        all_goals (cases a2<;>try simp only [ZaR,ZaS,ZaI,ZaJ,ZaK,ZaL,ZaM,ZaN,ZaO,ZaP,ZaT,ZaU,ZaV,ZaQ])
        all_goals (cases s8<;>try simp only [ZaR,ZaS,ZaI,ZaJ,ZaK,ZaL,ZaM,ZaN,ZaO,ZaP,ZaT,ZaU,ZaV,ZaQ])
        all_goals (cases q1<;>try simp only [ZaR,ZaS,ZaI,ZaJ,ZaK,ZaL,ZaM,ZaN,ZaO,ZaP,ZaT,ZaU,ZaV,ZaQ])
        all_goals (cases q2<;>try simp only [ZaR,ZaS,ZaI,ZaJ,ZaK,ZaL,ZaM,ZaN,ZaO,ZaP,ZaT,ZaU,ZaV,ZaQ])
        all_goals (cases rn<;>try simp only [ZaR,ZaS,ZaI,ZaJ,ZaK,ZaL,ZaM,ZaN,ZaO,ZaP,ZaT,ZaU,ZaV,ZaQ])
        all_goals (cases fi<;>try simp only [ZaR,ZaS,ZaI,ZaJ,ZaK,ZaL,ZaM,ZaN,ZaO,ZaP,ZaT,ZaU,ZaV,ZaQ])
        all_goals (cases st<;>try simp only [ZaR,ZaS,ZaI,ZaJ,ZaK,ZaL,ZaM,ZaN,ZaO,ZaP,ZaT,ZaU,ZaV,ZaQ])
        all_goals (cases pz<;>try simp only [ZaR,ZaS,ZaI,ZaJ,ZaK,ZaL,ZaM,ZaN,ZaO,ZaP,ZaT,ZaU,ZaV,ZaQ])
        all_goals (cases un<;>try simp only [ZaR,ZaS,ZaI,ZaJ,ZaK,ZaL,ZaM,ZaN,ZaO,ZaP,ZaT,ZaU,ZaV,ZaQ])
        all_goals (cases nv<;>try simp only [ZaR,ZaS,ZaI,ZaJ,ZaK,ZaL,ZaM,ZaN,ZaO,ZaP,ZaT,ZaU,ZaV,ZaQ])
        all_goals (cases tn<;>try simp only [ZaR,ZaS,ZaI,ZaJ,ZaK,ZaL,ZaM,ZaN,ZaO,ZaP,ZaT,ZaU,ZaV,ZaQ])
      · rw [beq_eq_false_iff_ne.2 hg]
        simp only [ZaR,ZaS,ZaI,ZaJ,ZaK,ZaL,ZaM,ZaN,ZaO,ZaP,ZaT,ZaU,ZaV,ZaQ]
        generalize decide (k.ZaA < 0)=g1
        generalize decide (400 < k.ZaA)=g2
        (cases a1<;>try simp only [ZaR,ZaS,ZaI,ZaJ,ZaK,ZaL,ZaM,ZaN,ZaO,ZaP,ZaT,ZaU,ZaV,ZaQ])
        all_goals (cases a2<;>try simp only [ZaR,ZaS,ZaI,ZaJ,ZaK,ZaL,ZaM,ZaN,ZaO,ZaP,ZaT,ZaU,ZaV,ZaQ])
        all_goals (cases s8<;>try simp only [ZaR,ZaS,ZaI,ZaJ,ZaK,ZaL,ZaM,ZaN,ZaO,ZaP,ZaT,ZaU,ZaV,ZaQ])
        all_goals (cases q1<;>try simp only [ZaR,ZaS,ZaI,ZaJ,ZaK,ZaL,ZaM,ZaN,ZaO,ZaP,ZaT,ZaU,ZaV,ZaQ])
        all_goals (cases q2<;>try simp only [ZaR,ZaS,ZaI,ZaJ,ZaK,ZaL,ZaM,ZaN,ZaO,ZaP,ZaT,ZaU,ZaV,ZaQ])
        all_goals (cases g1<;>try simp only [ZaR,ZaS,ZaI,ZaJ,ZaK,ZaL,ZaM,ZaN,ZaO,ZaP,ZaT,ZaU,ZaV,ZaQ])
        all_goals (cases g2<;>try simp only [ZaR,ZaS,ZaI,ZaJ,ZaK,ZaL,ZaM,ZaN,ZaO,ZaP,ZaT,ZaU,ZaV,ZaQ])
        all_goals (cases rn<;>try simp only [ZaR,ZaS,ZaI,ZaJ,ZaK,ZaL,ZaM,ZaN,ZaO,ZaP,ZaT,ZaU,ZaV,ZaQ])
    · rw [beq_eq_false_iff_ne.2 hn]
      simp only [ZaR,ZaS,ZaI,ZaJ,ZaK,ZaL,ZaM,ZaN,ZaO,ZaP,ZaT,ZaU,ZaV,ZaQ]
      generalize decide (k.need < 1)=n1
      generalize decide (9 < k.need)=n2
      generalize decide (k.ZaA < 0)=g1
      generalize decide (400 < k.ZaA)=g2
      (cases a1<;>try simp only [ZaR,ZaS,ZaI,ZaJ,ZaK,ZaL,ZaM,ZaN,ZaO,ZaP,ZaT,ZaU,ZaV,ZaQ])
      all_goals (cases a2<;>try simp only [ZaR,ZaS,ZaI,ZaJ,ZaK,ZaL,ZaM,ZaN,ZaO,ZaP,ZaT,ZaU,ZaV,ZaQ])
      all_goals (cases s8<;>try simp only [ZaR,ZaS,ZaI,ZaJ,ZaK,ZaL,ZaM,ZaN,ZaO,ZaP,ZaT,ZaU,ZaV,ZaQ])
      all_goals (cases q1<;>try simp only [ZaR,ZaS,ZaI,ZaJ,ZaK,ZaL,ZaM,ZaN,ZaO,ZaP,ZaT,ZaU,ZaV,ZaQ])
      all_goals (cases q2<;>try simp only [ZaR,ZaS,ZaI,ZaJ,ZaK,ZaL,ZaM,ZaN,ZaO,ZaP,ZaT,ZaU,ZaV,ZaQ])
      all_goals (cases g1<;>try simp only [ZaR,ZaS,ZaI,ZaJ,ZaK,ZaL,ZaM,ZaN,ZaO,ZaP,ZaT,ZaU,ZaV,ZaQ])
      all_goals (cases g2<;>try simp only [ZaR,ZaS,ZaI,ZaJ,ZaK,ZaL,ZaM,ZaN,ZaO,ZaP,ZaT,ZaU,ZaV,ZaQ])
      all_goals (cases n1<;>try simp only [ZaR,ZaS,ZaI,ZaJ,ZaK,ZaL,ZaM,ZaN,ZaO,ZaP,ZaT,ZaU,ZaV,ZaQ])
      all_goals (cases n2<;>try simp only [ZaR,ZaS,ZaI,ZaJ,ZaK,ZaL,ZaM,ZaN,ZaO,ZaP,ZaT,ZaU,ZaV,ZaQ])
      all_goals (cases rn<;>try simp only [ZaR,ZaS,ZaI,ZaJ,ZaK,ZaL,ZaM,ZaN,ZaO,ZaP,ZaT,ZaU,ZaV,ZaQ])
  · have e:(bif decide (k.kind < 1) then some true else (bif decide (4 < k.kind) then some true else some true))=some true:=by cases decide (k.kind < 1)<;>cases decide (4 < k.kind)<;>rfl
    have e2:k.kind < 1∨4 < k.kind:=by omega
    rw [beq_eq_false_iff_ne.2 k1,beq_eq_false_iff_ne.2 k2,beq_eq_false_iff_ne.2 k3,beq_eq_false_iff_ne.2 k4]
    simp only [ZaR,ZaS,ZaI,ZaJ,ZaK,ZaL,ZaM,ZaN,ZaO,ZaP,ZaT,ZaU,ZaV,ZaQ]
    rcases e2 with e2 | e2
    · rw [decide_eq_true e2]
      simp only [ZaR,ZaS,ZaI,ZaJ,ZaK,ZaL,ZaM,ZaN,ZaO,ZaP,ZaT,ZaU,ZaV,ZaQ]
    · rw [decide_eq_true e2]
      cases decide (k.kind < 1)<;>simp only [ZaR,ZaS,ZaI,ZaJ,ZaK,ZaL,ZaM,ZaN,ZaO,ZaP,ZaT,ZaU,ZaV,ZaQ]
theorem zgo (c:Zaa) (ho:c.off.length < 4611686018427387904) (hs:∀ k∈c.Zaf,k.start.length < 4611686018427387904):Qt c=some (z7 c):=by
  unfold Qt z7
  simp only [zh,Bool.cond_true_left,ZaT]
  show (bif wS c then _ else _)=_
  cases hlim:wS c with
  | true=>rfl
  | false=>
    simp only [wS,Bool.or_eq_false_iff,decide_eq_false_iff_not] at hlim
    obtain ⟨h1,h2,h3,h4,h5,h6⟩:=hlim
    simp only [ZaS,zh4 c (by omega) (by omega) (by omega) ho,ZaT]
    cases q6 c with
    | false=>rfl
    | true=>
      simp only [ZaR]
      rw [jD (fun i=>clB c i) (fun i=>(i:Int)) (by omega) (fun i hi=>by
        rw [zeX c i c.Zaf[i] (List.getElem?_eq_getElem hi) (hs _ (List.getElem_mem hi))]
        simp only [ZaT,clB,List.getElem?_eq_getElem hi,zh])]
      cases (List.range c.Zaf.length).find? (fun j=>!clB c j)<;>rfl
theorem zh5 {c:Zaa} (hc:c.Ok):JT c=some ((z7 c).1 == 0):=by
  unfold JT
  rw [zgo c (hc.off.lt (by omega)) (fun k hk=>(hc.Zaf.2 k hk).start.lt (by omega))]
  rfl
noncomputable def jz (c:Zaa) (s:Zao) (a:Int):Zao:=((d_Step c s a).getD (noS,1)).1
theorem vH {c:Zaa} {s:Zao} {a:Int} (hc:c.Ok) (hv:VS c s) (h1 : -1≤a) (h2:a < c.Zaj.length) (hd:s.day < c.Zas) :
    d_Step c s a=some (jz c s a,0)∧VS c (jz c s a)∧(a = -1→zc5 c s (jz c s a))∧(∀ (i:Nat) (x:Zar),a=(i:Int)→c.Zaj[i]?=some x→zgj c i x s (jz c s a)):=by
  obtain ⟨⟨r1,r2⟩,e,h⟩:=zgk hc hv h1 h2 hd
  have e2:jz c s a=r1:=by unfold jz;rw [e];rfl
  rw [e2,e]
  obtain ⟨h0,h⟩:=h
  simp only at h0 h
  subst h0
  exact ⟨rfl,h⟩
theorem yR {α:Type} [BEq α] [LawfulBEq α] {f:Nat→Unit→Option (Unit ⊕ Unit)} (a b:List α) (hl:a.length=b.length) (ha:a.length < 4611686018427387904) (h:∀ (i:Nat) (h1:i < a.length) (h2:i < b.length),f i ()=some (bif a[i] == b[i] then .inl () else .inr ())) :
    forR (a.length:Int) f ()=some (bif a == b then .inl () else .inr ()):=by
  rw [jh (fun i=>a[i]? == b[i]?) ha (fun i hi=>by
    rw [h i hi (by omega),List.getElem?_eq_getElem hi,List.getElem?_eq_getElem (show i < b.length by omega)]
    show _=some (bif (some a[i] == some b[i]) then _ else _)
    rfl)]
  congr 2
  rw [Bool.eq_iff_iff,List.all_eq_true]
  constructor
  · intro hh
    rw [beq_iff_eq]
    refine List.ext_getElem? fun i => ?_
    by_cases hi:i < a.length
    · exact beq_iff_eq.1 (hh i (List.mem_range.2 hi))
    · rw [List.getElem?_eq_none (by omega),List.getElem?_eq_none (by omega)]
  · intro hh i _
    rw [beq_iff_eq.1 hh];exact beq_self_eq_true _
theorem J0 {α:Type} (a b:List α):((a.length:Int) == (b.length:Int))=decide (a.length=b.length):=by
  by_cases h:a.length=b.length
  · simp [h]
  · simp only [h,decide_false];exact beq_eq_false_iff_ne.2 (by omega)
theorem zk8 (a b:List Int) (ha:a.length < 4611686018427387904):YY a b=some (a == b):=by
  unfold YY
  rw [J0]
  by_cases h:a.length=b.length
  · simp only [h,decide_true,ZaR]
    rw [←h,yR a b h ha (fun i h1 h2=>by
      simp only [zz,List.getElem?_eq_getElem h1,List.getElem?_eq_getElem h2,ZaT,zh])]
    cases (a == b)<;>rfl
  · simp only [h,decide_false,ZaS]
    have:a≠b:=fun e=>h (by rw [e])
    rw [beq_eq_false_iff_ne.2 this]
theorem zk9 (a b:List Bool) (ha:a.length < 4611686018427387904):YZ a b=some (a == b):=by
  unfold YZ
  rw [J0]
  by_cases h:a.length=b.length
  · simp only [h,decide_true,ZaR]
    rw [←h,yR a b h ha (fun i h1 h2=>by
      simp only [zz,List.getElem?_eq_getElem h1,List.getElem?_eq_getElem h2,ZaT,zh])]
    cases (a == b)<;>rfl
  · simp only [h,decide_false,ZaS]
    have:a≠b:=fun e=>h (by rw [e])
    rw [beq_eq_false_iff_ne.2 this]
instance:BEq zw:=⟨fun a b=>(a.Zak == b.Zak)&&((a.left == b.left)&&((a.got == b.got)&&((a.Zaq == b.Zaq)&&((a.Zat == b.Zat)&&true))))⟩
instance:LawfulBEq zw where
  eq_of_beq {a b} h:=by
    have h':((a.Zak == b.Zak)&&((a.left == b.left)&&((a.got == b.got)&&((a.Zaq == b.Zaq)&&((a.Zat == b.Zat)&&true)))))=true:=h
    simp only [Bool.and_eq_true,beq_iff_eq,and_true] at h'
    obtain ⟨h1,h2,h3,h4,h5⟩:=h'
    cases a;cases b;simp_all
  rfl {a}:=by
    show ((a.Zak == a.Zak)&&((a.left == a.left)&&((a.got == a.got)&&((a.Zaq == a.Zaq)&&((a.Zat == a.Zat)&&true)))))=true
    simp
theorem zla (a b:List zw) (ha:a.length < 4611686018427387904):Y0 a b=some (a == b):=by
  unfold Y0
  rw [J0]
  by_cases h:a.length=b.length
  · simp only [h,decide_true,ZaR]
    rw [←h,yR a b h ha (fun i h1 h2=>by
      simp only [zz,List.getElem?_eq_getElem h1,List.getElem?_eq_getElem h2,ZaT,zh];rfl)]
    cases (a == b)<;>rfl
  · simp only [h,decide_false,ZaS]
    have:a≠b:=fun e=>h (by rw [e])
    rw [beq_eq_false_iff_ne.2 this]
def xN (a b:Zao):Bool:=a.day == b.day&&(a.Zad == b.Zad&&(a.used == b.used&&a.Zag == b.Zag))
theorem Yo {a b:Zao}:xN a b=true↔a=b:=by
  unfold xN
  simp only [Bool.and_eq_true,beq_iff_eq]
  constructor
  · rintro ⟨h1,h2,h3,h4⟩
    cases a;cases b;simp_all
  · rintro rfl;exact ⟨rfl,rfl,rfl,rfl⟩
theorem zh6 (a b:Zao) (h1:a.Zad.length < 4611686018427387904) (h2:a.used.length < 4611686018427387904) (h3:a.Zag.length < 4611686018427387904):xL a b=some (xN a b):=by
  unfold xL xN
  rw [zk8 _ _ h1,zk9 _ _ h2,zla _ _ h3]
  simp only [ZaT,zh,Bool.cond_false_right]
theorem VS.few {c:Zaa} {s:Zao} (hc:c.Ok) (h:VS c s):s.Zad.length≤12∧s.used.length≤60∧s.Zag.length≤400:=by
  have sm:=qx (hc.off.lt (by omega)) h.cv
  have:=sm.Zad
  have:=sm.Zaj
  have:=sm.Zaf
  have:=h.lh
  have:=h.lu
  have:=h.lm
  omega
theorem zgp {c:Zaa} {s:Zao} (hc:c.Ok) (h:VS c s):j5 s=some s:=by
  have:=h.few hc
  unfold j5
  rw [Jk (by omega),Jk (by omega),Jk (by omega)]
  rfl
noncomputable def xt (c:Zaa) (Zab:Int) (s:Zao):Bool:=decide (0≤Zab)&&(decide (Zab < c.Zal)&&vsB c s)
theorem zc8 {c:Zaa} (hc:c.Ok) (Zab:Int) (p:Zae):j4 c Zab p=some (xt c Zab p.state):=by
  unfold j4 xt
  rw [Qx c _ hc]
  simp only [ZaT,zh,Bool.cond_false_right]
theorem qH {c:Zaa} {Zab:Int} {s:Zao}:xt c Zab s=true↔0≤Zab∧Zab < c.Zal∧VS c s:=by
  simp only [xt,Bool.and_eq_true,decide_eq_true_eq]
  exact ⟨fun ⟨a,b,d⟩=>⟨a,b,zgY d⟩,fun ⟨a,b,d⟩=>⟨a,b,ky d⟩⟩
noncomputable def mvB (c:Zaa) (Zab:Int) (p:Zae) (i:Nat):Bool:=match c.Zaj[i]? with
  | some a=>((qU p.state.Zad a == Zab) == p.own) && !xN (jz c p.state i) p.state
  | none=>false
noncomputable def j9 (c:Zaa) (Zab:Int) (p:Zae) (n:Nat):List Int:=((List.range n).filter (mvB c Zab p)).map fun i:Nat=>(i:Int)
noncomputable def zi (c:Zaa) (Zab:Int) (p:Zae):List Int:=
  (bif p.own then [-2] else [])++(bif decide (c.Zas≤p.state.day) then [] else (bif p.own then [] else [-1])++j9 c Zab p c.Zaj.length)
noncomputable def target (c:Zaa) (p:Zae) (move:Int):Zae:=if move = -2 then {state:=p.state,own:=false} else {state:=jz c p.state move,own:=true}
theorem yH (c:Zaa) (Zab:Int) (p:Zae) (n:Nat):j9 c Zab p (n+1)=j9 c Zab p n++(bif mvB c Zab p n then [(n:Int)] else []):=by
  unfold j9
  rw [List.range_succ,List.filter_append,List.map_append]
  congr 1
  cases h:mvB c Zab p n<;>simp [h]
theorem Jo (c:Zaa) (Zab:Int) (p:Zae) (n:Nat):(j9 c Zab p n).length≤n:=by
  unfold j9
  rw [List.length_map]
  have:=List.length_filter_le (mvB c Zab p) (List.range n)
  simpa using this
theorem zgq {c:Zaa} {s:Zao} {a:Zar} (hv:VS c s) (av:AV2 c a):(bif a.Zax == (-1) then some (-1) else (Option.bind (ze s.Zad a.Zax) fun e2=>some e2))=some (qU s.Zad a):=by
  unfold qU
  cases hr:(a.Zax == (-1:Int)) with
  | true=>rfl
  | false=>
    have h1:=beq_eq_false_iff_ne.1 hr
    have:=av.Zax
    have:=hv.lh
    obtain ⟨h2,h3⟩:=qm (l:=s.Zad) (n:=a.Zax) (by omega) (by omega)
    rw [h3,List.getElem?_eq_getElem h2];rfl
theorem zgr {c:Zaa} {Zab:Int} {p:Zae} {n:Nat} {x:Int}:x∈j9 c Zab p n↔∃ i:Nat,i < n∧mvB c Zab p i=true∧x=(i:Int):=by
  unfold j9
  simp only [List.mem_map,List.mem_filter,List.mem_range]
  constructor
  · rintro ⟨i,⟨a,b⟩,rfl⟩;exact ⟨i,a,b,rfl⟩
  · rintro ⟨i,a,b,rfl⟩;exact ⟨i,⟨a,b⟩,rfl⟩
theorem Jp {c:Zaa} {Zab:Int} {p:Zae} {x:Int}:x∈zi c Zab p↔(p.own=true∧x = -2)∨(p.state.day < c.Zas∧p.own=false∧x = -1)∨(p.state.day < c.Zas∧∃ i:Nat,i < c.Zaj.length∧mvB c Zab p i=true∧x=(i:Int)):=by
  unfold zi
  by_cases hd:c.Zas≤p.state.day
  · have:¬ p.state.day < c.Zas:=by omega
    simp only [hd,decide_true,ZaR,List.append_nil,this,false_and,or_false]
    cases p.own<;>simp
  · have:p.state.day < c.Zas:=by omega
    simp only [hd,decide_false,ZaS,List.mem_append,zgr,this,true_and]
    cases p.own<;>simp
def zau (c:Zaa) (n:Int):Bool:=
  !(decide (20 < (c.Zad.length:Int))||(decide (30 < (c.Zap.length:Int))||(decide (70 < (c.Zaj.length:Int))||(decide (n < (c.Zaf.length:Int))||decide (100 < (c.off.length:Int))))))&&c.Zaf.all (fun k=>!decide (20 < (k.start.length:Int)))
theorem zeY (c:Zaa) (n:Int) (hc:c.Zaf.length < 4611686018427387904):kS c n=some (zau c n):=by
  unfold kS zau
  rw [qR (l:=c.Zaf) (fun k=>!decide (20 < (k.start.length:Int))) hc (fun i hi=>by
    simp only [zz,List.getElem?_eq_getElem hi,ZaT]
    cases decide (20 < (c.Zaf[i].start.length:Int))<;>rfl)]
  simp only [zh,ZaT,Bool.cond_true_left]
  cases (decide (20 < (c.Zad.length:Int))||(decide (30 < (c.Zap.length:Int))||(decide (70 < (c.Zaj.length:Int))||(decide (n < (c.Zaf.length:Int))||decide (100 < (c.off.length:Int)))))) <;>
    cases c.Zaf.all (fun k=>!decide (20 < (k.start.length:Int)))<;>rfl
def Y2 (c:Zaa):Bool:=zau c 6&&(decide ((c.Zaj.length:Int)≤8)&&decide (c.Zas≤20))
theorem zjF {c:Zaa} (hc:c.Ok):WH c=some (Y2 c):=by
  unfold WH Y2
  rw [zeY c 6 (hc.Zaf.lt (by omega))]
  simp only [zh,ZaT,Bool.cond_false_right]
theorem yb {d:Nat} (h:d < 10):(UInt8.ofNat (48+d)).toNat=48+d:=by
  rw [UInt8.toNat_ofNat'];omega
theorem Jq:∀ (u:Nat),∀ b∈Lib.decDigits u,48≤b.toNat∧b.toNat≤57:=by
  intro u
  induction u using Nat.strongRecOn with
  | _ u ih=>
    intro b hb
    rw [Lib.decDigits] at hb
    by_cases h:u < 10
    · rw [dif_pos h] at hb
      simp only [List.mem_singleton] at hb
      subst hb
      rw [yb h];omega
    · rw [dif_neg h] at hb
      rcases List.mem_append.1 hb with hb | hb
      · exact ih (u / 10) (by omega) b hb
      · simp only [List.mem_singleton] at hb
        subst hb
        rw [yb (by omega)];omega
def Jr (l:List UInt8):Nat:=l.foldl (fun a b=>a*10+(b.toNat - 48)) 0
theorem yI:∀ (u:Nat),Jr (Lib.decDigits u)=u:=by
  intro u
  induction u using Nat.strongRecOn with
  | _ u ih=>
    rw [Lib.decDigits]
    by_cases h:u < 10
    · rw [dif_pos h]
      simp only [Jr,List.foldl_cons,List.foldl_nil,yb h];omega
    · rw [dif_neg h]
      have:=ih (u / 10) (by omega)
      unfold Jr at this ⊢
      rw [List.foldl_append,this]
      simp only [List.foldl_cons,List.foldl_nil,yb (show u % 10 < 10 by omega)];omega
theorem zgs {a b:Int} (h:Lib.itoa a=Lib.itoa b):a=b:=by
  have key:∀ (u v:Nat),45::Lib.decDigits u=Lib.decDigits v→False:=by
    intro u v h
    have:=Jq v 45 (by rw [←h];exact List.mem_cons_self)
    have e:(45:UInt8).toNat=45:=rfl
    omega
  unfold Lib.itoa at h
  by_cases ha:a < 0
  · by_cases hb:b < 0
    · rw [if_pos ha,if_pos hb] at h
      have h1:=congrArg Jr (List.cons.inj h).2
      rw [yI,yI] at h1
      omega
    · rw [if_pos ha,if_neg hb] at h
      exact (key _ _ h).elim
  · by_cases hb:b < 0
    · rw [if_neg ha,if_pos hb] at h
      exact (key _ _ h.symm).elim
    · rw [if_neg ha,if_neg hb] at h
      have h1:=congrArg Jr h
      rw [yI,yI] at h1
      omega
theorem Yp (n:Int):∀ b∈Lib.itoa n,b≠32:=by
  intro b hb e
  subst e
  have e:(32:UInt8).toNat=32:=rfl
  unfold Lib.itoa at hb
  split at hb
  · rcases List.mem_cons.1 hb with h | h
    · exact absurd h (by decide)
    · have:=Jq _ _ h;omega
  · have:=Jq _ _ hb;omega
def PI {α:Type} (f:α→List UInt8):Prop:=∀ (a b:α) (xs ys:List UInt8),f a++xs=f b++ys→a=b∧xs=ys
theorem zbO:∀ {a b xs ys:List UInt8},(∀ x∈a,x≠32)→(∀ x∈b,x≠32)→a++32::xs=b++32::ys→a=b∧xs=ys
  | [],[],xs,ys,_,_,h=>⟨rfl,(List.cons.inj h).2⟩
  | [],y::b,xs,ys,_,hb,h=>absurd (List.cons.inj h).1.symm (hb y List.mem_cons_self)
  | x::a,[],xs,ys,ha,_,h=>absurd (List.cons.inj h).1 (ha x List.mem_cons_self)
  | x::a,y::b,xs,ys,ha,hb,h=>by
    obtain ⟨h1,h2⟩:=List.cons.inj h
    obtain ⟨h3,h4⟩:=zbO (a:=a) (b:=b) (fun z hz=>ha z (List.mem_cons_of_mem _ hz)) (fun z hz=>hb z (List.mem_cons_of_mem _ hz)) h2
    exact ⟨by rw [h1,h3],h4⟩
theorem ZU:PI zS:=fun a b xs ys h=>by
  unfold zS at h
  rw [List.append_assoc,List.append_assoc] at h
  obtain ⟨h1,h2⟩:=zbO (Yp a) (Yp b) h
  exact ⟨zgs h1,h2⟩
theorem Vz:PI qh:=fun a b xs ys h=>by
  unfold qh at h
  obtain ⟨h1,h2⟩:=List.cons.inj h
  refine ⟨?_,h2⟩
  cases a<;>cases b<;>first | rfl | exact absurd h1 (by decide)
theorem zh7:PI jN:=fun a b xs ys h=>by
  unfold jN at h
  simp only [List.append_assoc] at h
  obtain ⟨h1,h⟩:=ZU _ _ _ _ h
  obtain ⟨h2,h⟩:=ZU _ _ _ _ h
  obtain ⟨h3,h⟩:=ZU _ _ _ _ h
  obtain ⟨h4,h⟩:=ZU _ _ _ _ h
  obtain ⟨h5,h6⟩:=Vz _ _ _ _ h
  refine ⟨?_,h6⟩
  clear h6 h
  cases a;cases b
  simp only at h1 h2 h3 h4 h5
  subst h1;subst h2;subst h3;subst h4;subst h5
  rfl
theorem J1 {α:Type} {f:α→List UInt8} (hf:PI f):∀ {l m:List α} {xs ys:List UInt8},l.length=m.length→l.flatMap f++xs=m.flatMap f++ys→l=m∧xs=ys
  | [],[],_,_,_,h=>⟨rfl,h⟩
  | [],_::_,_,_,hl,_=>by simp at hl
  | _::_,[],_,_,hl,_=>by simp at hl
  | a::l,b::m,xs,ys,hl,h=>by
    rw [List.flatMap_cons,List.flatMap_cons,List.append_assoc,List.append_assoc] at h
    obtain ⟨h1,h⟩:=hf _ _ _ _ h
    obtain ⟨h2,h⟩:=J1 hf (by simpa using hl) h
    exact ⟨by rw [h1,h2],h⟩
theorem zgt {c:Zaa} {p q:Zae} (hp:VS c p.state) (hq:VS c q.state) (h:z8 p=z8 q):p=q:=by
  unfold z8 at h
  simp only [List.append_assoc] at h
  obtain ⟨h1,h⟩:=Vz _ _ _ _ h
  obtain ⟨h2,h⟩:=ZU _ _ _ _ h
  obtain ⟨h3,h⟩:=J1 ZU (by rw [hp.lh,hq.lh]) h
  obtain ⟨h4,h⟩:=J1 Vz (by rw [hp.lu,hq.lu]) h
  have h5:=(J1 (l:=p.state.Zag) (m:=q.state.Zag) (xs:=[]) (ys:=[]) zh7 (by rw [hp.lm,hq.lm]) (by rw [List.append_nil,List.append_nil];exact h)).1
  clear h
  obtain ⟨⟨d,hs,us,ms⟩,o⟩:=p
  obtain ⟨⟨d',hs',us',ms'⟩,o'⟩:=q
  simp only at h1 h2 h3 h4 h5
  subst h1;subst h2;subst h3;subst h4;subst h5;rfl
theorem Qz {α:Type} {f:α→List UInt8} {b:Nat}:∀ {l:List α},(∀ a∈l,(f a).length≤b)→(l.flatMap f).length≤l.length*b
  | [],_=>by simp
  | a::l,h=>by
    have h1:=h a List.mem_cons_self
    have h2:=Qz (f:=f) (b:=b) (l:=l) fun x hx=>h x (List.mem_cons_of_mem _ hx)
    rw [List.flatMap_cons,List.length_append,List.length_cons,Nat.succ_mul];omega
theorem zjG {c:Zaa} {i:Nat} {k:Zan} {m:zw} (kv:KV c i k) (hp:c.Zal≤12) (h:qy c.Zal k m=true):(0≤m.Zak∧m.Zak≤5)∧(0≤m.left∧m.left≤400)∧(0≤m.got∧m.got≤9)∧(-1≤m.Zaq∧m.Zaq≤12):=by
  have hn:=kv.need
  rcases vF.1 h with ⟨h0,_,h1⟩ | ⟨h0,h1,h2⟩ | ⟨h0,h1,h2,h3⟩ | ⟨h0,h1⟩
  · simp only [WN,Bool.and_eq_true,beq_iff_eq] at h1
    omega
  · have hr:qt m=true:=by simp [qt,h0]
    obtain ⟨rv,_,_⟩:=xl kv h hr
    have:=rv.left;have:=rv.got;have:=rv.Zaq
    omega
  · have hr:qt m=true:=by simp [qt,h0]
    obtain ⟨rv,_,_⟩:=xl kv h hr
    have:=rv.left;have:=rv.got;have:=rv.Zaq
    omega
  · simp only [zal,Bool.and_eq_true,beq_iff_eq,decide_eq_true_eq] at h1
    omega
theorem vJ {n:Int} (h0 : -1000000≤n) (h1:n≤1000000):xr n=true:=by
  simp only [xr,Bool.and_eq_true,decide_eq_true_eq];omega
theorem yS {n:Int} (h0 : -1000000≤n) (h1:n≤1000000):(zS n).length≤22:=by
  have:=Lib.itoa_length_le n (by omega) (by omega)
  simp only [zS,List.length_append,List.length_cons,List.length_nil];omega
def txt (p:Zae):ByteArray:=⟨(z8 p).toArray⟩
theorem zh8 {c:Zaa} {p q:Zae} (hp:VS c p.state) (hq:VS c q.state) (h:txt p=txt q):p=q:=by
  refine zgt hp hq ?_
  unfold txt at h
  have h2:=congrArg (fun b:ByteArray=>b.data.toList) h
  simpa using h2
theorem zav {c:Zaa} (hc:c.Ok) {p:Zae} (hp:VS c p.state):qX p=some (txt p):=by
  have ho:=hc.off.lt (by omega:0 < 8)
  have sm:=qx ho hp.cv
  have hpa:=sm.Zal
  have hda:=sm.Zas
  have hday:=hp.day
  have hf:=hp.few hc
  have hh:∀ h∈p.state.Zad,-1000000≤h∧h≤1000000:=fun h hh=>by have:=hp.hold h hh;omega
  have hm:∀ m∈p.state.Zag,(0≤m.Zak∧m.Zak≤5)∧(0≤m.left∧m.left≤400)∧(0≤m.got∧m.got≤9)∧(-1≤m.Zaq∧m.Zaq≤12):=fun m hm=>by
    obtain ⟨i,hi,rfl⟩:=List.getElem_of_mem hm
    have hk:=List.getElem?_eq_getElem (show i < c.Zaf.length by have:=hp.lm;omega)
    exact zjG (jy ho hp.cv hk) (by omega) (hp.mrk i _ _ hk (List.getElem?_eq_getElem hi))
  have hlen:(z8 p).length≤1000000000:=by
    have h1:=yS (n:=p.state.day) (by omega) (by omega)
    have h2:=Qz (f:=zS) (b:=22) (l:=p.state.Zad) fun h hh'=>yS (hh h hh').1 (hh h hh').2
    have h3:=Qz (f:=qh) (b:=1) (l:=p.state.used) fun _ _=>by simp [qh]
    have h4:=Qz (f:=jN) (b:=89) (l:=p.state.Zag) fun m hm'=>by
      have:=hm m hm'
      have a1:=yS (n:=m.Zak) (by omega) (by omega)
      have a2:=yS (n:=m.left) (by omega) (by omega)
      have a3:=yS (n:=m.got) (by omega) (by omega)
      have a4:=yS (n:=m.Zaq) (by omega) (by omega)
      simp only [jN,qh,List.length_append,List.length_cons,List.length_nil];omega
    simp only [z8,List.length_append]
    have:(qh p.own).length=1:=rfl
    omega
  have hok:okP p=true:=by
    simp only [okP,Bool.and_eq_true,decide_eq_true_eq,List.all_eq_true]
    refine ⟨⟨⟨vJ (by omega) (by omega),fun x hx=>vJ (hh x hx).1 (hh x hx).2⟩,fun m hm' => ?_⟩,hlen⟩
    have:=hm m hm'
    exact ⟨⟨⟨vJ (by omega) (by omega),vJ (by omega) (by omega)⟩,vJ (by omega) (by omega)⟩,vJ (by omega) (by omega)⟩
  unfold qX txt
  rw [if_pos hok]
end Go.Proofs.YtmoedieenlaegaaGreatDoor
