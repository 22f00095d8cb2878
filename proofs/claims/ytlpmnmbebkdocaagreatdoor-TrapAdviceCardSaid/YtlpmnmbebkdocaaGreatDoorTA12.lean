/-
  What 'slices.BinarySearch' comes to; sizes of valid contracts.
  What 'system.Valid' comes to.
  What is known of a valid contract; what 'start' does.
  What 'system.Step' does.
  What an act does.
  'system.Step': what it returns.
  'arena.Moves' and 'arena.After': what they return.
  'arena.After'; 'Few', 'Tame', 'Doer'.
  The text of a position tells it from every other position of the same contract.
  A search through positions, breadth first: what is known of it.
  'arena.From': what it returns.
  'system.Start', 'arena.Build', 'Index'.
  What an arena holds: closed under moves, and all that can be reached.
  'arena.Reach': what it returns, with the order in which the states are found.
-/
import Derived.Test.YtlpmnmbebkdocaaGreatDoorTA11
import Derived.Test.YtlpmnmbebkdocaaGreatDoorTA07
namespace Go.Proofs.YtlpmnmbebkdocaaGreatDoor
open Go.RowKit
set_option linter.unusedSimpArgs false
set_option linter.unusedVariables false
set_option maxRecDepth 100000
theorem zjI (x y:Int):ZE x y=some (decide (x < y)):=by
  simp [ZE,Qm]
theorem zjJ {a b:Int} (h0:0≤a) (h1:a≤b) (h2:b < 4611686018427387904):Q9 .u64 .u64 (IntKind.u64.wrap (IntKind.i64.wrap (a+b))) 1=some ((a+b) / 2):=by
  rw [zW (by omega) (by omega),zft (by omega) (by omega)]
  unfold Q9
  rw [if_neg (by omega)]
  have:(2:Int) ^ (min (1:Int).toNat IntKind.u64.bits)=2:=by decide
  rw [this,Int.fdiv_eq_ediv_of_nonneg _ (by omega)]
def xP (l:List Int) (v:Int):Option Int:=if v∈l then some (l.idxOf v:Int) else none
theorem zgn {l:List Int} (hn:l.Nodup) {i:Nat} (hi:i < l.length):l.idxOf l[i]=i:=by
  have h1:l.idxOf l[i] < l.length:=List.idxOf_lt_length_iff.2 (List.getElem_mem hi)
  have h2:=List.getElem_idxOf h1
  exact (List.getElem?_inj h1 hn).1 (by rw [List.getElem?_eq_getElem h1,List.getElem?_eq_getElem hi,h2])
theorem zh3 {l:List Int} (hn:l.Nodup) {i:Nat} {v:Int} (h:l[i]?=some v):xP l v=some (i:Int):=by
  obtain ⟨hi,rfl⟩:=List.getElem?_eq_some_iff.1 h
  unfold xP
  rw [if_pos (List.getElem_mem hi),zgn hn hi]
theorem VO (l:List Int) (v:Int) (hs:l.Pairwise (· < ·)) (hl:l.length < 4611686018427387904):∃ r:Int,jx l v=some (r,(xP l v).isSome)∧∀ p,xP l v=some p→r=p:=by
  have hp:=List.pairwise_iff_getElem.1 hs
  unfold jx
  have hit:Ret (iter (σ:=Int×Int) (ρ:=Int) (fun s1=>(bif decide (s1.1 < s1.2) then (Option.bind (Q9 .u64 .u64 (IntKind.u64.wrap (IntKind.i64.wrap (s1.1+s1.2))) 1) fun e1=>(Option.bind (ze l (IntKind.i64.wrap e1)) fun e2=>(Option.bind (ZE e2 v) fun r1=>(bif r1 then some (.inl ((IntKind.i64.wrap ((IntKind.i64.wrap e1)+1)),s1.2)) else some (.inl (s1.1,(IntKind.i64.wrap e1))))))) else some (.inr s1.1))) (0,(l.length:Int)))
      (fun r=>0≤r∧r≤l.length∧(∀ (j:Nat) (hj:j < l.length),(j:Int) < r→l[j] < v)∧(∀ (j:Nat) (hj:j < l.length),r≤(j:Int)→v≤l[j])):=by
    refine Ret.iter (fun s=>0≤s.1∧s.1≤s.2∧s.2≤l.length∧(∀ (j:Nat) (hj:j < l.length),(j:Int) < s.1→l[j] < v)∧(∀ (j:Nat) (hj:j < l.length),s.2≤(j:Int)→v≤l[j])) (fun s=>(s.2 - s.1).toNat) ⟨by simp,by simp,by simp,fun j hj h=>by simp only at h;omega,fun j hj h=>by simp only at h;omega⟩ ?_
    rintro ⟨lo,hi⟩ ⟨h1,h2,h3,h4,h5⟩
    simp only at h1 h2 h3 h4 h5 ⊢
    refine Ret.ite (fun hb => ?_) (fun hb => ?_)
    · have hlt:=of_decide_eq_true hb
      rw [zjJ h1 h2 (by omega)]
      simp only [ZaJ]
      have hm1:lo≤(lo+hi) / 2:=by omega
      have hm2:(lo+hi) / 2 < hi:=by omega
      generalize (lo+hi) / 2=m at hm1 hm2 ⊢
      rw [zW (by omega) (by omega)]
      obtain ⟨hi',e⟩:=qW (l:=l) (n:=m) (by omega) (by omega)
      rw [e,zW (by omega) (by omega)]
      simp only [ZaJ,zjI]
      refine Ret.ite (fun hb2 => ?_) (fun hb2 => ?_)
      · have hv:=of_decide_eq_true hb2
        refine Ret.some ⟨⟨by show 0≤m+1;omega,by show m+1≤hi;omega,h3,fun j hj hjm => ?_,h5⟩,by show (hi - (m+1)).toNat < (hi - lo).toNat;omega⟩
        have hjm:(j:Int) < m+1:=hjm
        rcases Nat.lt_or_ge j m.toNat with h | h
        · have:=hp j m.toNat hj hi' h;omega
        · obtain rfl:j=m.toNat:=by omega
          exact hv
      · have hv:¬ l[m.toNat] < v:=of_decide_eq_false hb2
        refine Ret.some ⟨⟨h1,by show lo≤m;omega,by show m≤(l.length:Int);omega,h4,fun j hj hjm => ?_⟩,by show (m - lo).toNat < (hi - lo).toNat;omega⟩
        have hjm:m≤(j:Int):=hjm
        rcases Nat.lt_or_ge m.toNat j with h | h
        · have:=hp m.toNat j hi' hj h;omega
        · obtain rfl:j=m.toNat:=by omega
          omega
    · have hlt:¬ lo < hi:=of_decide_eq_false hb
      have:lo=hi:=by omega
      subst this
      exact Ret.some ⟨h1,h3,h4,h5⟩
  obtain ⟨r,hr,hr0,hr1,hr2,hr3⟩:=hit
  rw [hr]
  simp only [ZaJ]
  by_cases hlt:r < (l.length:Int)
  · obtain ⟨hi',e⟩:=qW (l:=l) (n:=r) hr0 hlt
    simp only [hlt,decide_true,cond_true,e,ZaJ]
    by_cases hv:l[r.toNat]=v
    · have hpos:xP l v=some (r.toNat:Int):=zh3 (zei hs) (by rw [List.getElem?_eq_getElem hi',hv])
      refine ⟨r,by simp [hv,hpos],fun p hp => ?_⟩
      rw [hpos] at hp;cases hp;omega
    · have hn:xP l v=none:=by
        unfold xP
        rw [if_neg]
        intro hm
        obtain ⟨j,hj,e2⟩:=List.getElem_of_mem hm
        rcases Nat.lt_trichotomy j r.toNat with h | h | h
        · have:=hr2 j hj (by omega);omega
        · subst h;exact hv e2
        · have h6:=hp r.toNat j hi' hj h
          have h7:=hr3 r.toNat hi' (by omega)
          omega
      refine ⟨r,?_,fun p hp=>by rw [hn] at hp;cases hp⟩
      rw [hn]
      have:(l[r.toNat] == v)=false:=beq_eq_false_iff_ne.2 hv
      simp [this,yV]
  · have hn:xP l v=none:=by
      unfold xP
      rw [if_neg]
      intro hm
      obtain ⟨j,hj,e2⟩:=List.getElem_of_mem hm
      have:=hr2 j hj (by omega);omega
    refine ⟨r,?_,fun p hp=>by rw [hn] at hp;cases hp⟩
    rw [hn]
    simp [hlt]
theorem zh4 {Zat:Int} {off:List Int} (hl:off.length < 4611686018427387904) (h:Jp Zat off=true):(off.length:Int)≤Zat∨off.length=0:=by
  have e:Jp Zat off=kp Zat (-1) off:=by
    unfold Jp
    rw [zhb Zat off hl (-1)]
    cases kp Zat (-1) off<;>rfl
  rw [e] at h
  rcases zay h with h1 | h1<;>omega
structure Small (c:Zab):Prop where
  Zap:1≤c.Zap∧c.Zap≤12
  Zat:1≤c.Zat∧c.Zat≤2000
  Zae:c.Zae.length≤12
  Zaw:c.Zaw.length≤20
  Zai:c.Zai.length≤60
  Zag:c.Zag.length≤400
  off:c.off.length≤2000
  start:∀ k∈c.Zag,k.start.length≤8
  cond:∀ (i:Nat) (k:Zam),c.Zag[i]?=some k→∀ s∈k.start,0≤s.clause∧s.clause < c.Zag.length∧s.clause≠(i:Int)
theorem qt {c:Zab} (ho:c.off.length < 4611686018427387904) (h:(qg c).1=0):Small c:=by
  obtain ⟨h1,h2,h3,_⟩:=yC h
  simp only [kE,Bool.or_eq_false_iff,decide_eq_false_iff_not] at h1
  obtain ⟨a1,a2,a3,a4,a5,a6⟩:=h1
  simp only [jy,Bool.and_eq_true,Bool.not_eq_true',decide_eq_false_iff_not] at h2
  obtain ⟨b1,b2,b3,b4,b5,b6,b7⟩:=h2
  have hcl:∀ (i:Nat) (k:Zam),c.Zag[i]?=some k→vJ c.Zae.length c.Zaw c.Zai c.Zag.length i k=true:=fun i k hk=>by
    have:=h3 i (List.getElem?_eq_some_iff.1 hk).1
    simp only [clB,hk] at this
    exact this
  refine ⟨⟨by omega,by omega⟩,⟨by omega,by omega⟩,by omega,by omega,by omega,by omega,?_,fun k hk => ?_,fun i k hk s hs => ?_⟩
  · rcases zh4 ho b7 with h | h<;>omega
  · obtain ⟨i,hi,e⟩:=List.getElem_of_mem hk
    have:=hcl i k (by rw [←e];exact List.getElem?_eq_getElem hi)
    simp only [vJ,Bool.and_eq_true,Bool.not_eq_true',decide_eq_false_iff_not] at this
    omega
  · have:=hcl i k hk
    simp only [vJ,Bool.and_eq_true] at this
    have:=List.all_eq_true.1 this.2.2.1 s hs
    simp only [W6,Bool.and_eq_true,Bool.not_eq_true',decide_eq_false_iff_not,beq_eq_false_iff_ne] at this
    exact ⟨by omega,by omega,this.2.2.1⟩
theorem Zc {α:Type} {by_:Nat} {l:List α} (h:l.length*by_≤140737488355328):jr by_ l=some l:=by unfold jr;rw [if_pos h]
theorem Zd {f:Nat→Unit→Option (Unit ⊕ Unit)} {n:Nat} (p:Nat→Bool) (hn:n < 4611686018427387904) (h:∀ j,j < n→f j ()=some (bif p j then .inl () else .inr ())) :
    forR (n:Int) f ()=some (bif (List.range n).all p then .inl () else .inr ()):=by
  rw [q8 p (fun _=>()) hn h]
  cases hf:(List.range n).find? (fun j=>!p j) with
  | none=>
    have:(List.range n).all p=true:=List.all_eq_true.2 fun j hj=>wD hf j (List.mem_range.1 hj)
    rw [this];rfl
  | some k=>
    obtain ⟨h1,h2,_⟩:=wE hf
    have:(List.range n).all p=false:=by
      rw [Bool.eq_false_iff]
      intro h
      have:=List.all_eq_true.1 h k (List.mem_range.2 h1)
      rw [h2] at this;cases this
    rw [this];rfl
theorem wc {α ρ:Type} {f:Nat→List α→Option (List α ⊕ ρ)} (s0:List α) (F:Nat→α→α) (hl:s0.length < 4611686018427387904)
    (h:∀ (i:Nat) (m:α) (s:List α),s0[i]?=some m→s.length=s0.length→s[i]?=some m→f i s=some (.inl (s.set i (F i m)))) :
    forR (s0.length:Int) f s0=some (.inl (s0.mapIdx F)):=by
  obtain ⟨o,h1,h2⟩:=wX (n:=s0.length) (s0:=s0) (f:=f) (fun i s=>s.length=s0.length∧∀ j,s[j]?=if j < i then (s0[j]?).map (F j) else s0[j]?) (fun _=>False) hl ⟨rfl,fun j=>by simp⟩ (fun i s hi ⟨a,b⟩=>by
    have hs:s[i]?=some s0[i]:=by rw [b i,if_neg (by omega),List.getElem?_eq_getElem hi]
    refine ⟨_,h i s0[i] s (List.getElem?_eq_getElem hi) a hs,by simpa using a,fun j => ?_⟩
    rw [List.getElem?_set]
    by_cases hij:i=j
    · subst hij
      rw [if_pos rfl,if_pos (by omega),if_pos (by omega),List.getElem?_eq_getElem hi];rfl
    · rw [if_neg hij,b j]
      by_cases h3:j < i
      · rw [if_pos h3,if_pos (by omega)]
      · rw [if_neg h3,if_neg (by omega)])
  rw [h1]
  cases o with
  | inr r=>exact h2.elim
  | inl s=>
    obtain ⟨a,b⟩:=h2
    congr 2
    refine List.ext_getElem? fun j => ?_
    rw [b j,List.getElem?_mapIdx]
    by_cases hj:j < s0.length
    · rw [if_pos hj]
    · rw [if_neg hj,List.getElem?_eq_none (by omega)];rfl
def xj (Zal:List Zaa) (s:CondT):Bool:=match ze Zal s.clause with
  | some m=>bif s.is == 1 then !(m.Zan == 0) else bif s.is == 2 then m.Zan == 3 else bif s.is == 3 then m.Zan == 4 else bif s.is == 4 then m.Zan == 5 else false
  | none=>false
def jX (ks:List Zam) (Zal:List Zaa) (i:Nat):Bool:=match ks[i]?,Zal[i]? with
  | some k,some m=>(m.Zan == 0 && !k.Zaz)&&k.start.all (xj Zal)
  | _,_=>false
def kF (Zap:Int) (k:Zam) (m:Zaa):Bool:=
  !(k.Zaz||(decide (m.left < 1)||(m.ZaA&&k.pause == -1)))&&(((m.got == 0)||(k.kind == 1 && !(decide (m.got < 0)||decide (k.need≤m.got)))) &&
    (bif k.kind == 4 then m.Zav == -1 else decide (0≤m.Zav)&&decide (m.Zav < Zap)))
def Kq (m:Zaa):Bool:=(m.Zan == 0)&&((m.left == 0)&&((m.got == 0)&&((m.Zav == (-1))&&((m.ZaA == false)&&true))))
def zc6 (Zap:Int) (m:Zaa):Bool:=(m.left == 0)&&(decide (0≤m.got)&&(decide (m.got≤9)&&(decide ((-1)≤m.Zav)&&(decide (m.Zav < Zap) && !m.ZaA))))
def jm (Zap:Int) (k:Zam) (m:Zaa):Bool:=
  bif m.Zan == 0 then !k.Zaz&&Kq m else bif m.Zan == 1 then decide (m.left≤k.after)&&kF Zap k m
  else bif m.Zan == 2 then k.kind == 1&&(decide (m.left≤k.Zay)&&kF Zap k m) else (m.Zan == 3||(m.Zan == 4||m.Zan == 5))&&zc6 Zap m
theorem zc7 (c:Zab) (k:Zam) (m:Zaa):wZ c k m=some (kF c.Zap k m):=by
  simp only [wZ,kF,zq,ZaJ]
  cases k.Zaz<;>cases decide (m.left < 1)<;>cases m.ZaA<;>cases (k.pause == -1)<;>cases (m.got == 0)<;>cases (k.kind == 1)<;>cases decide (m.got < 0)<;>cases decide (k.need≤m.got)<;>cases (k.kind == 4)<;>cases decide (0≤m.Zav)<;>rfl
theorem zbz (c:Zab) (i:Nat) (k:Zam) (m:Zaa) (hk:c.Zag[i]?=some k):yc c i m=some (jm c.Zap k m):=by
  unfold yc
  rw [zj hk]
  simp only [ZaJ,zc7,zq,jm,Kq,zc6]
  cases (m.Zan == 0)
  · cases (m.Zan == 1)
    · cases (m.Zan == 2)
      · cases (m.Zan == 3)<;>cases (m.Zan == 4)<;>cases (m.Zan == 5)<;>cases (m.left == 0)<;>cases decide (0≤m.got)<;>cases decide (m.got≤9)<;>cases decide ((-1)≤m.Zav)<;>cases decide (m.Zav < c.Zap)<;>rfl
      · cases (k.kind == 1)<;>cases decide (m.left≤k.Zay)<;>rfl
    · cases decide (m.left≤k.after)<;>rfl
  · cases k.Zaz<;>rfl
theorem zb2 (c:Zab) (s:Zad) (i:Nat) (k:Zam) (m:Zaa) (hk:c.Zag[i]?=some k) (hm:s.Zal[i]?=some m) (hst:k.start.length < 4611686018427387904)
    (hc:∀ x∈k.start,0≤x.clause∧x.clause < s.Zal.length):vD c s i=some (jX c.Zag s.Zal i):=by
  unfold vD jX
  rw [zj hm,zj hk,hk,hm]
  simp only [ZaJ]
  rw [kD (l:=k.start) (xj s.Zal) hst (fun j hj=>by
    obtain ⟨h0,h1⟩:=hc _ (List.getElem_mem hj)
    obtain ⟨h2,h3⟩:=qW h0 h1
    simp only [qr,List.getElem?_eq_getElem hj,ZaJ,h3,xj,zq])]
  simp only [ZaJ,zq]
  cases (m.Zan == 0)<;>cases k.Zaz<;>cases k.start.all (xj s.Zal)<;>rfl
def J3 (Zai:List Zau) (used:List Bool) (i:Nat):Bool:=match Zai[i]?,used[i]? with
  | some a,some u=>!(u&&a.kind == 1)
  | _,_=>false
def kG (c:Zab) (Zal:List Zaa) (i:Nat):Bool:=match c.Zag[i]?,Zal[i]? with
  | some k,some m=>jm c.Zap k m && !jX c.Zag Zal i
  | _,_=>false
noncomputable def vsB (c:Zab) (s:Zad):Bool:=
  ((qg c).1 == 0)&&((!(decide (s.day < 0))&&(!(decide (c.Zat < s.day))&&((s.Zae.length:Int) == c.Zae.length&&((s.used.length:Int) == c.Zai.length&&(s.Zal.length:Int) == c.Zag.length)))) &&
    (yd c.Zap s.Zae&&((List.range s.used.length).all (J3 c.Zai s.used)&&(List.range s.Zal.length).all (kG c s.Zal))))
theorem Qu (c:Zab) (s:Zad) (hc:c.Ok):xh c s=some (vsB c s):=by
  unfold xh vsB
  rw [hc.valid]
  simp only [ZaJ]
  cases hv:((qg c).1 == 0) with
  | false=>rfl
  | true=>
    have sm:=qt (hc.off.lt (by omega)) (beq_iff_eq.1 hv)
    simp only [cond_true,zq,ZaJ,Bool.true_and]
    cases h1:decide (s.day < 0)<;>cases h2:decide (c.Zat < s.day)<;>cases h3:((s.Zae.length:Int) == c.Zae.length)<;>cases h4:((s.used.length:Int) == c.Zai.length)<;>cases h5:((s.Zal.length:Int) == c.Zag.length)<;>try rfl
    simp only [cond_true,ZaI,Bool.not_true,Bool.not_false,Bool.true_and]
    have e3:=beq_iff_eq.1 h3
    have e4:=beq_iff_eq.1 h4
    have e5:=beq_iff_eq.1 h5
    have:=sm.Zae
    have:=sm.Zai
    have:=sm.Zag
    rw [kD (l:=s.Zae) (fun h=>decide (0≤h)&&decide (h < c.Zap)) (by omega) (fun j hj=>by
      simp only [qr,List.getElem?_eq_getElem hj,ZaJ,zq]
      generalize s.Zae[j]=h
      by_cases a:h < 0
      · have b:¬ 0≤h:=by omega
        simp [a,b]
      · have b:0≤h:=by omega
        by_cases d:h < c.Zap
        · have d':¬ c.Zap≤h:=by omega
          simp [a,b,d,d']
        · have d':c.Zap≤h:=by omega
          simp [a,b,d,d'])]
    rw [Zd (n:=s.used.length) (J3 c.Zai s.used) (by omega) (fun j hj=>by
      have hj':j < c.Zai.length:=by omega
      simp only [qr,List.getElem?_eq_getElem hj,List.getElem?_eq_getElem hj',ZaJ,zq,J3]
      cases s.used[j]<;>cases (c.Zai[j].kind == 1)<;>rfl)]
    rw [Zd (n:=s.Zal.length) (kG c s.Zal) (by omega) (fun j hj=>by
      have hj':j < c.Zag.length:=by omega
      have hk:=List.getElem?_eq_getElem hj'
      have hm:=List.getElem?_eq_getElem hj
      simp only [qr,hm,ZaJ]
      rw [zbz c j _ _ hk,zb2 c s j _ _ hk hm (by have:=sm.start _ (List.getElem_mem hj');omega) (fun x hx=>by have:=sm.cond j _ hk x hx;omega)]
      simp only [ZaJ,kG,hk,hm]
      cases jm c.Zap c.Zag[j] s.Zal[j]<;>cases jX c.Zag s.Zal j<;>rfl)]
    simp only [yd,ZaJ]
    cases s.Zae.all (fun h=>decide (0≤h)&&decide (h < c.Zap))<;>cases (List.range s.used.length).all (J3 c.Zai s.used)<;>cases (List.range s.Zal.length).all (kG c s.Zal)<;>rfl
structure VS (c:Zab) (s:Zad):Prop where
  cv:(qg c).1=0
  day:0≤s.day∧s.day≤c.Zat
  lh:s.Zae.length=c.Zae.length
  lu:s.used.length=c.Zai.length
  lm:s.Zal.length=c.Zag.length
  hold:∀ h∈s.Zae,0≤h∧h < c.Zap
  used:∀ (i:Nat) (a:Zau),c.Zai[i]?=some a→s.used[i]?=some true→a.kind≠1
  mrk:∀ (i:Nat) (k:Zam) (m:Zaa),c.Zag[i]?=some k→s.Zal[i]?=some m→jm c.Zap k m=true
  rdy:∀ i,i < c.Zag.length→jX c.Zag s.Zal i=false
theorem zlj {c:Zab} {s:Zad} (h:vsB c s=true):VS c s:=by
  simp only [vsB,Bool.and_eq_true,Bool.not_eq_true',decide_eq_false_iff_not,beq_iff_eq,List.all_eq_true,List.mem_range,yd,decide_eq_true_eq] at h
  obtain ⟨h1,⟨h2,h3,h4,h5,h6⟩,h7,h8,h9⟩:=h
  refine ⟨h1,⟨by omega,by omega⟩,by omega,by omega,by omega,fun x hx=>h7 x hx,fun i a ha hu hk => ?_,fun i k m hk hm => ?_,fun i hi => ?_⟩
  · have:=h8 i (by have:=(List.getElem?_eq_some_iff.1 hu).1;exact this)
    simp only [J3,ha,hu,hk] at this
    cases this
  · have:=h9 i (List.getElem?_eq_some_iff.1 hm).1
    simp only [kG,hk,hm,Bool.and_eq_true] at this
    exact this.1
  · have hi':i < s.Zal.length:=by omega
    have:=h9 i hi'
    simp only [kG,List.getElem?_eq_getElem hi,List.getElem?_eq_getElem hi',Bool.and_eq_true,Bool.not_eq_true'] at this
    exact this.2
theorem W7 {c:Zab} {s:Zad} (h:VS c s):vsB c s=true:=by
  have hd:=h.day
  have h4:=h.lh
  have h5:=h.lu
  have h6:=h.lm
  simp only [vsB,Bool.and_eq_true,Bool.not_eq_true',decide_eq_false_iff_not,beq_iff_eq,List.all_eq_true,List.mem_range,yd,decide_eq_true_eq]
  refine ⟨h.cv,⟨by omega,by omega,by omega,by omega,by omega⟩,fun x hx=>h.hold x hx,fun i hi => ?_,fun i hi => ?_⟩
  · have hi':i < c.Zai.length:=by omega
    have ha:=List.getElem?_eq_getElem hi'
    have hu:=List.getElem?_eq_getElem hi
    simp only [J3,ha,hu]
    cases hq:s.used[i] with
    | false=>rfl
    | true=>
      have:=h.used i _ ha (by rw [hu,hq])
      simp [this]
  · have hi':i < c.Zag.length:=by omega
    have ha:=List.getElem?_eq_getElem hi'
    have hu:=List.getElem?_eq_getElem hi
    simp only [kG,ha,hu,Bool.and_eq_true,Bool.not_eq_true']
    exact ⟨h.mrk i _ _ ha hu,h.rdy i hi'⟩
structure KV (c:Zab) (i:Nat) (k:Zam):Prop where
  act:0≤k.act∧k.act < c.Zai.length
  after:1≤k.after∧k.after≤400
  kind:k.kind=1∨k.kind=2∨k.kind=3∨k.kind=4
  Zaq:k.kind=4∨(0≤k.Zaq∧k.Zaq < c.Zae.length)
  need:1≤k.need∧k.need≤9
  Zay:0≤k.Zay∧k.Zay≤400
  start:k.start.length≤8
  cond:∀ s∈k.start,0≤s.clause∧s.clause < c.Zag.length
  pause:(k.pause = -1∧k.ZaB = -1)∨(Zl c.Zai k.pause=true∧Zl c.Zai k.ZaB=true)
theorem ye {c:Zab} (ho:c.off.length < 4611686018427387904) (h:(qg c).1=0) {i:Nat} {k:Zam} (hk:c.Zag[i]?=some k):KV c i k:=by
  have sm:=qt ho h
  obtain ⟨_,_,h3,_⟩:=yC h
  have:=h3 i (List.getElem?_eq_some_iff.1 hk).1
  simp only [clB,hk,vJ,Bool.and_eq_true,Bool.not_eq_true',decide_eq_false_iff_not] at this
  obtain ⟨⟨a1,a2,a3,a4⟩,⟨a5,a6⟩,a7,a8,_⟩:=this
  have hkd:(k.kind=1∨k.kind=2∨k.kind=3∨k.kind=4)∧(k.kind=4∨(0≤k.Zaq∧k.Zaq < c.Zae.length))∧(1≤k.need∧k.need≤9)∧(0≤k.Zay∧k.Zay≤400):=by
    unfold W5 at a5
    cases h4:(k.kind == 4) with
    | true=>
      rw [h4] at a5
      simp only [cond_true,Bool.and_eq_true,beq_iff_eq] at a5
      have:=beq_iff_eq.1 h4
      omega
    | false=>
      rw [h4] at a5
      simp only [ZaI,Bool.and_eq_true,xZ,decide_eq_true_eq] at a5
      obtain ⟨⟨b1,_⟩,b2⟩:=a5
      cases h1:(k.kind == 1) with
      | true=>
        rw [h1] at b2
        simp only [cond_true,Bool.and_eq_true,decide_eq_true_eq] at b2
        have:=beq_iff_eq.1 h1
        omega
      | false=>
        rw [h1] at b2
        cases h2:(k.kind == 2) with
        | true=>
          rw [h2] at b2
          simp only [cond_true,ZaI,Bool.and_eq_true,beq_iff_eq] at b2
          have:=beq_iff_eq.1 h2
          omega
        | false=>
          rw [h2] at b2
          simp only [ZaI,Bool.and_eq_true,beq_iff_eq] at b2
          omega
  refine ⟨⟨by omega,by omega⟩,⟨by omega,by omega⟩,hkd.1,hkd.2.1,hkd.2.2.1,hkd.2.2.2,by omega,fun s hs => ?_,?_⟩
  · have:=sm.cond i k hk s hs;omega
  · simp only [Jq,Bool.or_eq_true,Bool.and_eq_true,beq_iff_eq,Bool.not_eq_true'] at a8
    rcases a8 with h | h
    · exact .inl h
    · exact .inr h.2
structure AV2 (c:Zab) (a:Zau):Prop where
  Zaq:(a.Zaq = -1∧a.kind=1)∨(0≤a.Zaq∧a.Zaq < c.Zae.length)
  kind:a.kind=1∨((a.kind=2∨a.kind=3)∧(0≤a.give∧a.give < c.Zae.length)∧(0≤a.to∧a.to < c.Zap))
theorem Kr {c:Zab} (h:(qg c).1=0) {i:Nat} {a:Zau} (ha:c.Zai[i]?=some a):AV2 c a:=by
  obtain ⟨_,h2,_,_⟩:=yC h
  simp only [jy,Bool.and_eq_true,Bool.not_eq_true',decide_eq_false_iff_not] at h2
  obtain ⟨_,_,_,_,_,b6,_⟩:=h2
  have:=List.all_eq_true.1 b6 a (List.mem_of_getElem? ha)
  unfold VN at this
  cases hr:xZ c.Zae.length a.Zaq with
  | true=>
    rw [hr] at this
    simp only [xZ,Bool.and_eq_true,decide_eq_true_eq] at hr
    cases h1:(a.kind == 1) with
    | true=>exact ⟨.inr hr,.inl (beq_iff_eq.1 h1)⟩
    | false=>
      rw [h1] at this
      simp only [cond_true,ZaI,Bool.and_eq_true,Bool.or_eq_true,beq_iff_eq,xZ,decide_eq_true_eq] at this
      exact ⟨.inr hr,.inr ⟨this.1,this.2.1,by omega⟩⟩
  | false=>
    rw [hr] at this
    simp only [ZaI,Bool.and_eq_true,beq_iff_eq] at this
    exact ⟨.inl ⟨this.2.1,this.1⟩,.inl this.1⟩
theorem zb3 {c:Zab} (h:(qg c).1=0):∀ x∈c.Zae,0≤x∧x < c.Zap:=by
  obtain ⟨_,h2,_,_⟩:=yC h
  simp only [jy,Bool.and_eq_true] at h2
  have:=h2.2.2.2.1
  simp only [yd,List.all_eq_true,Bool.and_eq_true,decide_eq_true_eq] at this
  exact this
theorem zjK {c:Zab} (ho:c.off.length < 4611686018427387904) (h:(qg c).1=0):c.off.Pairwise (· < ·):=by
  obtain ⟨_,h2,_,_⟩:=yC h
  simp only [jy,Bool.and_eq_true] at h2
  have b7:=h2.2.2.2.2.2.2
  have e:Jp c.Zat c.off=kp c.Zat (-1) c.off:=by
    unfold Jp
    rw [zhb c.Zat c.off ho (-1)]
    cases kp c.Zat (-1) c.off<;>rfl
  rw [e] at b7
  exact (YA b7).2
def MOk (c:Zab) (ms:List Zaa):Prop:=ms.length=c.Zag.length∧∀ (i:Nat) (k:Zam) (m:Zaa),c.Zag[i]?=some k→ms[i]?=some m→jm c.Zap k m=true
def NR (c:Zab) (ms:List Zaa):Prop:=∀ i,i < c.Zag.length→jX c.Zag ms i=false
def xW (k:Zam) (b:Int):Zaa:={Zan:=1,left:=k.after,got:=0,Zav:=b,ZaA:=false}
def StR (c:Zab) (ms ms':List Zaa):Prop:=∀ (i:Nat) (m m':Zaa),ms[i]?=some m→ms'[i]?=some m'→m'=m∨(m.Zan=0∧∃ k b,c.Zag[i]?=some k∧m'=xW k b)
def yf (ms:List Zaa):Nat:=ms.countP (fun m=>m.Zan == 0)
def Ze (hs:List Int) (k:Zam):Int:=bif k.kind == 4 then -1 else hs[k.Zaq.toNat]?.getD 0
def Jr (ks:List Zam) (ms:List Zaa):Nat→Nat→Prop
  | 0,_=>False
  | n+1,i=>∃ k m,ks[i]?=some k∧ms[i]?=some m∧m.Zan=0∧k.Zaz=false∧∀ x∈k.start,xj ms x=true∨(x.is=1∧Jr ks ms n x.clause.toNat)
def Sta (ks:List Zam) (ms:List Zaa) (i:Nat):Prop:=∃ n,Jr ks ms n i
def zaQ (c:Zab) (hs:List Int) (ms r:List Zaa):Prop:=∀ (i:Nat) (k:Zam) (m:Zaa),c.Zag[i]?=some k→ms[i]?=some m→r[i]?=some m∨(Sta c.Zag ms i∧r[i]?=some (xW k (Ze hs k)))
def zjL (c:Zab) (hs:List Int) (ms r:List Zaa):Prop:=∀ (i:Nat) (k:Zam) (m:Zaa),c.Zag[i]?=some k→ms[i]?=some m→(¬ Sta c.Zag ms i∧r[i]?=some m)∨(Sta c.Zag ms i∧r[i]?=some (xW k (Ze hs k)))
theorem YF {ks:List Zam} {ms:List Zaa}:∀ (n i:Nat),Jr ks ms n i→Jr ks ms (n+1) i
  | 0,i,h=>h.elim
  | n+1,i,⟨k,m,h1,h2,h3,h4,h5⟩=>⟨k,m,h1,h2,h3,h4,fun x hx=>(h5 x hx).imp id fun h=>⟨h.1,YF n _ h.2⟩⟩
theorem VP {ks:List Zam} {ms:List Zaa} {n i:Nat} (h:Jr ks ms n i):∀ d,Jr ks ms (n+d) i
  | 0=>h
  | d+1=>YF _ _ (VP h d)
theorem zb4 {ks:List Zam} {ms:List Zaa}:∀ (l:List CondT),(∀ x∈l,xj ms x=true∨(x.is=1∧Sta ks ms x.clause.toNat))→∃ n,∀ x∈l,xj ms x=true∨(x.is=1∧Jr ks ms n x.clause.toNat)
  | [],_=>⟨0,fun x hx=>by cases hx⟩
  | y::l,h=>by
    obtain ⟨n,hn⟩:=zb4 l (fun x hx=>h x (List.mem_cons_of_mem _ hx))
    rcases h y (List.mem_cons_self ..) with h1 | ⟨h1,d,h2⟩
    · refine ⟨n,fun x hx => ?_⟩
      rcases List.mem_cons.1 hx with rfl | hx
      · exact .inl h1
      · exact hn x hx
    · refine ⟨n+d,fun x hx => ?_⟩
      rcases List.mem_cons.1 hx with rfl | hx
      · exact .inr ⟨h1,by rw [Nat.add_comm];exact VP h2 n⟩
      · exact (hn x hx).imp id fun h=>⟨h.1,VP h.2 d⟩
theorem W8 {ms:List Zaa} {x:CondT} {m:Zaa} (hx:ze ms x.clause=some m) (h1:m.Zan=1):xj ms x=(x.is == 1):=by
  simp only [xj,hx,h1]
  cases (x.is == 1)<;>cases (x.is == 2)<;>cases (x.is == 3)<;>cases (x.is == 4)<;>rfl
theorem zeQ {ms:List Zaa} {x:CondT} {m:Zaa} (hx:ze ms x.clause=some m) (h1:m.Zan=0):xj ms x=false:=by
  simp only [xj,hx,h1]
  cases (x.is == 1)<;>cases (x.is == 2)<;>cases (x.is == 3)<;>cases (x.is == 4)<;>rfl
structure StartP (c:Zab) (hs:List Int) (ms r:List Zaa):Prop where
  ok:MOk c r
  nr:NR c r
  rel:StR c ms r
  same:NR c ms→r=ms
  sta:zjL c hs ms r
theorem zc8 {ks:List Zam} {ms:List Zaa} {i:Nat} {m:Zaa} (h:Sta ks ms i) (hm:ms[i]?=some m):m.Zan=0:=by
  obtain ⟨n,h⟩:=h
  cases n with
  | zero=>exact h.elim
  | succ n=>obtain ⟨k,m',_,h2,h3,_⟩:=h;rw [hm] at h2;cases h2;exact h3
theorem zeR {c:Zab} {hs:List Int} {ms r:List Zaa} (hl:ms.length=c.Zag.length) (hr:r.length=c.Zag.length) (hI:zaQ c hs ms r) {i:Nat} {k:Zam} (hk:c.Zag[i]?=some k) (hcd:∀ x∈k.start,0≤x.clause∧x.clause < c.Zag.length) (hy:jX c.Zag r i=true):Sta c.Zag ms i:=by
  have hi:=(List.getElem?_eq_some_iff.1 hk).1
  have hm:=List.getElem?_eq_getElem (show i < ms.length by omega)
  have hmr:=List.getElem?_eq_getElem (show i < r.length by omega)
  simp only [jX,hk,hmr,Bool.and_eq_true,Bool.not_eq_true',beq_iff_eq,List.all_eq_true] at hy
  obtain ⟨⟨h0,hw⟩,hc⟩:=hy
  rcases hI i k _ hk hm with h | ⟨h,_⟩
  · rw [hmr] at h
    have e:=Option.some.inj h
    obtain ⟨n,hn⟩:=zb4 (ks:=c.Zag) (ms:=ms) k.start (fun x hx=>by
      obtain ⟨x0,x1⟩:=hcd x hx
      have hxi:=qW (l:=ms) (n:=x.clause) x0 (by omega)
      obtain ⟨a1,a2⟩:=hxi
      obtain ⟨b1,b2⟩:=qW (l:=r) (n:=x.clause) x0 (by omega)
      have hkx:=List.getElem?_eq_getElem (show x.clause.toNat < c.Zag.length by omega)
      have hx':=hc x hx
      rcases hI x.clause.toNat _ _ hkx (List.getElem?_eq_getElem a1) with h2 | ⟨h2,h3⟩
      · left
        rw [List.getElem?_eq_getElem b1] at h2
        simp only [xj,b2,Option.some.inj h2] at hx'
        simp only [xj,a2];exact hx'
      · right
        rw [List.getElem?_eq_getElem b1] at h3
        rw [W8 b2 (by rw [Option.some.inj h3];rfl)] at hx'
        exact ⟨beq_iff_eq.1 hx',h2⟩)
    exact ⟨n+1,k,_,hk,hm,by rw [←e];exact h0,hw,hn⟩
  · exact h
theorem zh5 {c:Zab} {hs:List Int} {ms r:List Zaa} (hl:ms.length=c.Zag.length) (hr:r.length=c.Zag.length) (hI:zaQ c hs ms r) (hn:NR c r) (hcd:∀ (i:Nat) (k:Zam),c.Zag[i]?=some k→∀ x∈k.start,0≤x.clause∧x.clause < c.Zag.length):zjL c hs ms r:=by
  have key:∀ (n i:Nat) (k:Zam),Jr c.Zag ms n i→c.Zag[i]?=some k→r[i]?=some (xW k (Ze hs k)):=by
    intro n
    induction n with
    | zero=>intro i k h;exact h.elim
    | succ n ih=>
      intro i k h hk
      have hi:=(List.getElem?_eq_some_iff.1 hk).1
      obtain ⟨k',m,h1,h2,h3,h4,h5⟩:=h
      rw [hk] at h1
      cases h1
      rcases hI i k m hk h2 with h | ⟨_,h⟩
      · exfalso
        have:=hn i hi
        have hy:jX c.Zag r i=true:=by
          simp only [jX,hk,h,h3,h4,beq_self_eq_true,Bool.not_false,Bool.and_true,Bool.true_and,List.all_eq_true]
          intro x hx
          obtain ⟨x0,x1⟩:=hcd i k hk x hx
          obtain ⟨a1,a2⟩:=qW (l:=ms) (n:=x.clause) x0 (by omega)
          obtain ⟨b1,b2⟩:=qW (l:=r) (n:=x.clause) x0 (by omega)
          have hkx:=List.getElem?_eq_getElem (show x.clause.toNat < c.Zag.length by omega)
          rcases h5 x hx with h6 | ⟨h6,h7⟩
          · rcases hI x.clause.toNat _ _ hkx (List.getElem?_eq_getElem a1) with g | ⟨g,g2⟩
            · rw [List.getElem?_eq_getElem b1] at g
              simp only [xj,a2] at h6
              simp only [xj,b2,Option.some.inj g];exact h6
            · rw [zeQ a2 (zc8 g (List.getElem?_eq_getElem a1))] at h6;cases h6
          · have g:=ih _ _ h7 hkx
            rw [List.getElem?_eq_getElem b1] at g
            rw [W8 b2 (by rw [Option.some.inj g];rfl),h6];rfl
        rw [hy] at this;cases this
      · exact h
  intro i k m hk hm
  by_cases hs':Sta c.Zag ms i
  · obtain ⟨n,h⟩:=hs'
    exact .inr ⟨⟨n,h⟩,key n i k h hk⟩
  · rcases hI i k m hk hm with h | ⟨h,_⟩
    · exact .inl ⟨hs',h⟩
    · exact absurd h hs'
theorem zeS {ms:List Zaa} {i:Nat} {m m':Zaa} (h:ms[i]?=some m) (h0:m.Zan=0) (h1:m'.Zan≠0):yf (ms.set i m') < yf ms:=by
  obtain ⟨hi,rfl⟩:=List.getElem?_eq_some_iff.1 h
  unfold yf
  rw [List.countP_set hi]
  have hp:0 < ms.countP (fun m=>m.Zan == 0):=List.countP_pos_iff.2 ⟨_,List.getElem_mem hi,by simp [h0]⟩
  simp only [h0,beq_self_eq_true,if_true,beq_iff_eq,h1,if_false]
  omega
noncomputable def vg (c:Zab) (day:Int) (hs:List Int) (us:List Bool) (ms:List Zaa):Option (List Zaa):=wi c day hs hs.length us us.length ms ms.length
theorem Qv (n:Nat):eqN n n=some ⟨rfl⟩:=by unfold eqN;rw [dif_pos rfl]
theorem xp {a b:Nat} (h:a=b):eqN a b=some ⟨h⟩:=by unfold eqN;rw [dif_pos h]
theorem Js (c:Zab) (day:Int) (hs:List Int) (us:List Bool) (ms:List Zaa) (ho:c.off.length < 4611686018427387904) (hv:(qg c).1=0) (hh:hs.length=c.Zae.length) (hb:∀ h∈hs,0≤h∧h < c.Zap) (hm:MOk c ms) :
    Ret (vg c day hs us ms) (StartP c hs ms):=by
  have sm:=qt ho hv
  have hcl:=sm.Zag
  unfold vg wi
  refine Ret.bind (P:=fun r=>StartP c hs ms r) (Ret.iter (fun s=>MOk c s.2∧StR c ms s.2∧(NR c ms→s.2=ms)∧zaQ c hs ms s.2∧(s.1=false→NR c s.2)) (fun s=>2*yf s.2+(if s.1 then 1 else 0)) ⟨hm,fun i m m' h1 h2=>.inl (by simp only at h2;rw [h1] at h2;exact (Option.some.inj h2).symm),fun _=>rfl,fun i k m h1 h2=>.inl h2,fun h=>by cases h⟩ ?_) (fun r hr=>Ret.some hr)
  have hl0:=hm.1
  have hcd:∀ (i:Nat) (k:Zam),c.Zag[i]?=some k→∀ x∈k.start,0≤x.clause∧x.clause < c.Zag.length:=fun i k hk=>(ye ho hv hk).cond
  rintro ⟨b,ms1⟩ ⟨hok,hrel,hsame,hsta,hnr⟩
  cases b with
  | false=>exact Ret.some ⟨hok,hnr rfl,hrel,hsame,zh5 hl0 hok.1 hsta (hnr rfl) hcd⟩
  | true=>
    simp only [cond_true]
    refine Ret.bind (P:=fun o=>∃ s2:Bool×List Zaa,o=.inl s2∧MOk c s2.2∧StR c ms s2.2∧(NR c ms1→s2.2=ms1)∧zaQ c hs ms s2.2∧(s2.1=false→s2.2=ms1∧NR c ms1)∧(s2.1=true→yf s2.2 < yf ms1))
      (Ret.forL (n:=c.Zag.length) (fun i s=>MOk c s.2∧StR c ms s.2∧(NR c ms1→s.2=ms1)∧zaQ c hs ms s.2∧(s.1=false→s.2=ms1∧∀ j,j < i→jX c.Zag ms1 j=false)∧(s.1=true→yf s.2 < yf ms1)) (by omega) ⟨hok,hrel,fun _=>rfl,hsta,fun _=>⟨rfl,fun j hj=>by omega⟩,fun h=>by cases h⟩ ?_ (fun s h=>⟨s,rfl,h⟩)) ?_
    · rintro i ⟨b0,ms2⟩ hi ⟨ok2,rel2,same2,sta2,nr2,lt2⟩
      simp only at ok2 rel2 same2 sta2 nr2 lt2
      have hk:=List.getElem?_eq_getElem hi
      have hl2:=ok2.1
      have hi2:i < ms2.length:=by omega
      have hm2:=List.getElem?_eq_getElem hi2
      have kv:=ye ho hv hk
      have hmk:=ok2.2 i _ _ hk hm2
      rw [zj hk]
      simp only [ZaJ,Qv,xp (show ms.length=ms2.length by omega)]
      rw [zb2 c _ i _ _ hk hm2 (by have:=kv.start;omega) (fun x hx=>by have:=kv.cond x hx;simp only;omega)]
      simp only [ZaJ]
      cases hr:jX c.Zag ms2 i with
      | false=>
        simp only [ZaI,ZaJ]
        refine Ret.some ⟨ok2,rel2,same2,sta2,fun hb=>⟨(nr2 hb).1,fun j hj => ?_⟩,lt2⟩
        rcases Nat.lt_or_ge j i with h | h
        · exact (nr2 hb).2 j h
        · obtain rfl:j=i:=by omega
          rw [←(nr2 hb).1];exact hr
      | true=>
        simp only [cond_true]
        have hr':=hr
        simp only [jX,hk,hm2,Bool.and_eq_true,Bool.not_eq_true',beq_iff_eq] at hr'
        obtain ⟨⟨h0,hw⟩,_⟩:=hr'
        have hbear:Ret (bif (c.Zag[i].kind == 4) then some (-1) else (Option.bind (zl hs.length c.Zag[i].Zaq) fun k1=>(Option.bind (hs[k1]?) fun e2=>some e2))) (fun v=>v=Ze hs c.Zag[i]∧bif c.Zag[i].kind == 4 then v = -1 else 0≤v∧v < c.Zap):=by
          refine Ret.ite (fun h4=>Ret.some (by simp [h4,Ze])) (fun h4 => ?_)
          have h4':c.Zag[i].kind≠4:=beq_eq_false_iff_ne.1 h4
          have hro:=kv.Zaq.resolve_left h4'
          rw [zbQ hro.1 (by omega)]
          have hlt:c.Zag[i].Zaq.toNat < hs.length:=by omega
          simp only [ZaJ,List.getElem?_eq_getElem hlt]
          exact Ret.some ⟨by simp [Ze,h4,List.getElem?_eq_getElem hlt],by rw [h4];exact hb _ (List.getElem_mem hlt)⟩
        refine Ret.bind (P:=fun v:Bool×List Zaa=>∃ b,v=(true,ms2.set i (xW c.Zag[i] b))∧b=Ze hs c.Zag[i]∧(bif c.Zag[i].kind == 4 then b = -1 else 0≤b∧b < c.Zap)) (Ret.bind hbear fun v hv' => ?_) ?_
        · rw [zO (show i < ms.length by omega)]
          simp only [ZaJ,hm2]
          exact Ret.some ⟨v,rfl,hv'⟩
        · rintro _ ⟨b,rfl,hbe,hbv⟩
          have hnew:jm c.Zap c.Zag[i] (xW c.Zag[i] b)=true:=by
            simp only [jm,xW,kF,hw]
            have h1:=kv.after
            have:¬ c.Zag[i].after < 1:=by omega
            cases h4:(c.Zag[i].kind == 4) with
            | true=>rw [h4] at hbv;simp only [cond_true] at hbv;subst hbv;simp [this]
            | false=>rw [h4] at hbv;simp only [ZaI] at hbv;simp [this,hbv]
          refine Ret.some ⟨⟨by simpa using hl2,fun j k m hj hmj => ?_⟩,fun j m m' h1 h2 => ?_,fun hn => ?_,fun j k m hj hmj => ?_,fun h=>by simp at h,fun _ => ?_⟩
          · rw [List.getElem?_set] at hmj
            by_cases hij:i=j
            · subst hij
              rw [if_pos rfl,if_pos hi2] at hmj
              rw [hk] at hj
              cases hj;cases hmj;exact hnew
            · rw [if_neg hij] at hmj;exact ok2.2 j k m hj hmj
          · simp only at h2
            rw [List.getElem?_set] at h2
            by_cases hij:i=j
            · subst hij
              rw [if_pos rfl,if_pos hi2] at h2
              cases h2
              refine .inr ⟨?_,_,b,hk,rfl⟩
              rcases rel2 i m _ h1 hm2 with h | ⟨h,_⟩
              · rw [←h];exact h0
              · exact h
            · rw [if_neg hij] at h2;exact rel2 j m m' h1 h2
          · have e:=same2 hn
            have:=hn i hi
            rw [←e,hr] at this
            cases this
          · show (ms2.set i (xW c.Zag[i] b))[j]?=some m∨Sta c.Zag ms j∧(ms2.set i (xW c.Zag[i] b))[j]?=some (xW k (Ze hs k))
            rw [List.getElem?_set]
            by_cases hij:i=j
            · subst hij
              rw [if_pos rfl,if_pos hi2]
              rw [hk] at hj
              cases hj
              exact .inr ⟨zeR hl0 hl2 sta2 hk (hcd _ _ hk) hr,by rw [hbe]⟩
            · rw [if_neg hij];exact sta2 j k m hj hmj
          · have h3:=zeS (m':=xW c.Zag[i] b) hm2 h0 (by simp [xW])
            show yf (ms2.set i (xW c.Zag[i] b)) < yf ms1
            cases b0 with
            | true=>have:=lt2 rfl;omega
            | false=>have e:=(nr2 rfl).1;subst e;exact h3
    · rintro _ ⟨⟨b2,ms2⟩,rfl,ok2,rel2,same2,sta2,nr2,lt2⟩
      simp only at ok2 rel2 same2 sta2 nr2 lt2
      simp only [Sum.elim_inl]
      refine Ret.some ⟨⟨ok2,rel2,fun hn => ?_,sta2,fun hb2 => ?_⟩,?_⟩
      · have e:=hsame hn
        simp only at e
        subst e
        exact same2 hn
      · obtain ⟨e1,e2⟩:=nr2 hb2
        simp only;rw [e1];exact e2
      · simp only
        cases b2 with
        | true=>have:=lt2 rfl;simp;omega
        | false=>have:=(nr2 rfl).1;subst this;simp
def jY (m:Zaa):Bool:=m.Zan == 1||m.Zan == 2
theorem Zf (m:Zaa):jt m=some (jY m):=by
  simp only [jt,zq,ZaJ,jY];cases (m.Zan == 1)<;>rfl
def Zm (st:Int) (m:Zaa):Zaa:={m with Zan:=st,left:=0,ZaA:=false}
def yN (free:Bool) (k:Zam) (m:Zaa):Zaa:=
  bif jY m then (bif m.ZaA||(k.ZaF&&free) then m else
    bif m.left - 1 == 0 then (bif k.kind == 1 then (bif m.Zan == 1&&decide (0 < k.Zay) then {m with Zan:=2,left:=k.Zay} else Zm 4 m) else bif k.kind == 2 then Zm 3 m else Zm 5 m)
    else {m with left:=m.left - 1}) else m
def atK (c:Zab) (F:Zam→Zaa→Zaa) (i:Nat) (m:Zaa):Zaa:=match c.Zag[i]? with | some k=>F k m | none=>m
structure RunV (c:Zab) (k:Zam) (m:Zaa):Prop where
  Zaz:k.Zaz=false
  left:1≤m.left∧m.left≤400
  ZaA:m.ZaA=true→k.pause ≠ -1
  got:m.got=0∨(k.kind=1∧0≤m.got∧m.got < k.need)
  Zav:(k.kind=4∧m.Zav = -1)∨(k.kind≠4∧0≤m.Zav∧m.Zav < c.Zap)
theorem jn {p:Int} {k:Zam} {m:Zaa}:kF p k m=true↔k.Zaz=false∧1≤m.left∧(m.ZaA=true→k.pause ≠ -1)∧(m.got=0∨(k.kind=1∧0≤m.got∧m.got < k.need))∧((k.kind=4∧m.Zav = -1)∨(k.kind≠4∧0≤m.Zav∧m.Zav < p)):=by
  simp only [kF,Bool.and_eq_true,Bool.not_eq_true',Bool.or_eq_false_iff,decide_eq_false_iff_not,Bool.or_eq_true,beq_iff_eq]
  have e1:(m.ZaA&&k.pause == -1)=false↔(m.ZaA=true→k.pause ≠ -1):=by cases m.ZaA<;>simp
  have e2:(bif k.kind == 4 then m.Zav == -1 else decide (0≤m.Zav)&&decide (m.Zav < p))=true↔((k.kind=4∧m.Zav = -1)∨(k.kind≠4∧0≤m.Zav∧m.Zav < p)):=by
    cases h:(k.kind == 4) with
    | true=>have:=beq_iff_eq.1 h;simp [this]
    | false=>have:=beq_eq_false_iff_ne.1 h;simp [this]
  rw [e1,e2]
  constructor
  · rintro ⟨⟨a,b,d⟩,e,f⟩;exact ⟨a,by omega,d,by omega,f⟩
  · rintro ⟨a,b,d,e,f⟩;exact ⟨⟨a,by omega,d⟩,by omega,f⟩
theorem xQ {p:Int} {k:Zam} {m:Zaa}:jm p k m=true↔(m.Zan=0∧k.Zaz=false∧Kq m=true)∨(m.Zan=1∧m.left≤k.after∧kF p k m=true)∨(m.Zan=2∧k.kind=1∧m.left≤k.Zay∧kF p k m=true)∨((m.Zan=3∨m.Zan=4∨m.Zan=5)∧zc6 p m=true):=by
  unfold jm
  by_cases h0:m.Zan=0
  · simp [h0]
  by_cases h1:m.Zan=1
  · simp [h1]
  by_cases h2:m.Zan=2
  · simp [h2]
  have e0:(m.Zan == 0)=false:=beq_eq_false_iff_ne.2 h0
  have e1:(m.Zan == 1)=false:=beq_eq_false_iff_ne.2 h1
  have e2:(m.Zan == 2)=false:=beq_eq_false_iff_ne.2 h2
  simp [e0,e1,e2,h0,h1,h2]
theorem wI {c:Zab} {i:Nat} {k:Zam} {m:Zaa} (kv:KV c i k) (h:jm c.Zap k m=true) (hr:jY m=true):RunV c k m∧kF c.Zap k m=true∧(m.Zan=1∧m.left≤k.after∨m.Zan=2∧k.kind=1∧m.left≤k.Zay):=by
  simp only [jY,Bool.or_eq_true,beq_iff_eq] at hr
  have ha:=kv.after
  have hg:=kv.Zay
  rcases xQ.1 h with ⟨h0,_⟩ | ⟨h0,h1,h2⟩ | ⟨h0,h1,h2,h3⟩ | ⟨h0,_⟩
  · omega
  · obtain ⟨a,b,d,e,f⟩:=jn.1 h2
    exact ⟨⟨a,⟨b,by omega⟩,d,e,f⟩,h2,.inl ⟨h0,h1⟩⟩
  · obtain ⟨a,b,d,e,f⟩:=jn.1 h3
    exact ⟨⟨a,⟨b,by omega⟩,d,e,f⟩,h3,.inr ⟨h0,h1,h2⟩⟩
  · omega
theorem ZL {c:Zab} {i:Nat} {k:Zam} {m:Zaa} {st:Int} (kv:KV c i k) (rv:RunV c k m) (hp:0 < c.Zap) (hst:st=3∨st=4∨st=5):jm c.Zap k (Zm st m)=true:=by
  refine xQ.2 (.inr (.inr (.inr ⟨hst,?_⟩)))
  have h1:=rv.got
  have h2:=rv.Zav
  have h3:=kv.need
  have e1:decide (0≤m.got)=true:=decide_eq_true (by omega)
  have e2:decide (m.got≤9)=true:=decide_eq_true (by omega)
  have e3:decide (-1≤m.Zav)=true:=decide_eq_true (by omega)
  have e4:decide (m.Zav < c.Zap)=true:=decide_eq_true (by omega)
  show ((0:Int) == 0&&(decide (0≤m.got)&&(decide (m.got≤9)&&(decide (-1≤m.Zav)&&(decide (m.Zav < c.Zap) && !false)))))=true
  rw [e1,e2,e3,e4];rfl
theorem yY {c:Zab} {k:Zam} {m:Zaa} (h:(m.Zan=1∧m.left≤k.after)∨(m.Zan=2∧k.kind=1∧m.left≤k.Zay)) (hr:kF c.Zap k m=true):jm c.Zap k m=true:=by
  rcases h with ⟨h0,h1⟩ | ⟨h0,h1,h2⟩
  · exact xQ.2 (.inr (.inl ⟨h0,h1,hr⟩))
  · exact xQ.2 (.inr (.inr (.inl ⟨h0,h1,h2,hr⟩)))
theorem MOk.mapIdx {c:Zab} {ms:List Zaa} (F:Zam→Zaa→Zaa) (h:MOk c ms) (hF:∀ (i:Nat) (k:Zam) (m:Zaa),c.Zag[i]?=some k→jm c.Zap k m=true→jm c.Zap k (F k m)=true):MOk c (ms.mapIdx (atK c F)):=by
  refine ⟨by simpa using h.1,fun i k m hk hm => ?_⟩
  rw [List.getElem?_mapIdx] at hm
  obtain ⟨m0,h0,rfl⟩:=Option.map_eq_some_iff.1 hm
  simp only [atK,hk]
  exact hF i k m0 hk (h.2 i k m0 hk h0)
theorem zgo {c:Zab} {i:Nat} {k:Zam} {m:Zaa} (free:Bool) (kv:KV c i k) (hp:0 < c.Zap) (h:jm c.Zap k m=true):jm c.Zap k (yN free k m)=true:=by
  unfold yN
  cases hr:jY m with
  | false=>exact h
  | true=>
    obtain ⟨rv,hb,hs⟩:=wI kv h hr
    simp only [cond_true]
    cases hp1:(m.ZaA||(k.ZaF&&free)) with
    | true=>exact h
    | false=>
      simp only [ZaI]
      have hl:=rv.left
      obtain ⟨b1,b2,b3,b4,b5⟩:=jn.1 hb
      cases hz:(m.left - 1 == 0) with
      | false=>
        have:=beq_eq_false_iff_ne.1 hz
        refine yY ?_ (jn.2 ⟨b1,?_,b3,b4,b5⟩)
        · simp only [ZaI];omega
        · simp only [ZaI];omega
      | true=>
        simp only [cond_true]
        cases h1:(k.kind == 1) with
        | false=>
          cases h2:(k.kind == 2) with
          | true=>exact ZL kv rv hp (by omega)
          | false=>exact ZL kv rv hp (by omega)
        | true=>
          simp only [cond_true]
          cases h3:(m.Zan == 1&&decide (0 < k.Zay)) with
          | false=>exact ZL kv rv hp (by omega)
          | true=>
            simp only [Bool.and_eq_true,beq_iff_eq,decide_eq_true_eq] at h3
            exact yY (.inr ⟨rfl,beq_iff_eq.1 h1,Int.le_refl _⟩) (jn.2 ⟨b1,by simp only [cond_true];omega,b3,b4,b5⟩)
theorem jP {α:Type} {s:List α} {i:Nat} {m:α} (h:s[i]?=some m):s.set i m=s:=by
  obtain ⟨hi,rfl⟩:=List.getElem?_eq_some_iff.1 h
  exact List.set_getElem_self hi
theorem wJ {α:Type} {s:List α} {i:Nat} {m x:α} (h:s[i]?=some m):(s.set i x)[i]?=some x:=by
  have:=(List.getElem?_eq_some_iff.1 h).1
  simp [this]
theorem J4 (i:Nat) (st:Int) (c:Zab) (p4:Int) (p5:List Int) (p6:Nat) (p7:List Bool) (p8:Nat) (ms:List Zaa) (n:Nat) (m:Zaa) (hi:i < n) (hm:ms[i]?=some m):xV i st c p4 p5 p6 p7 p8 ms n=some (ms.set i (Zm st m)):=by
  unfold xV
  simp only [zO hi,ZaJ,hm,List.set_set,Zm]
theorem zh6 (c:Zab) (day:Int) (hs:List Int) (us:List Bool) (ms:List Zaa) (ho:c.off.length < 4611686018427387904) (hv:(qg c).1=0) (hm:MOk c ms) (hday:0≤day∧day≤2000) :
    d_70a c day hs hs.length us us.length ms ms.length=vg c (day+1) hs us (ms.mapIdx (atK c (yN (xP c.off day).isSome))):=by
  have sm:=qt ho hv
  have hcl:=sm.Zag
  have hl:=hm.1
  unfold d_70a
  obtain ⟨r,hr,_⟩:=VO c.off day (zjK ho hv) ho
  rw [hr]
  simp only [ZaJ,xi]
  rw [wc ms (atK c (yN (xP c.off day).isSome)) (by omega) ?_]
  · simp only [ZaJ,Sum.elim_inl]
    rw [zW (by omega) (by omega)]
    unfold vg
    rw [List.length_mapIdx]
    generalize wi _ _ _ _ _ _ _ _=x
    cases x<;>rfl
  · intro i m s h1 h2 h3
    have hi:i < ms.length:=(List.getElem?_eq_some_iff.1 h1).1
    have hic:i < c.Zag.length:=by omega
    have hk:=List.getElem?_eq_getElem hic
    have kv:=ye ho hv hk
    have hmk:=hm.2 i _ _ hk h1
    simp only [zO hi,ZaJ,h3,Zf,atK,hk]
    generalize c.Zag[i]=k at hk kv hmk
    cases hrn:jY m with
    | false=>simp only [ZaI,ZaJ,yN,hrn,jP h3]
    | true=>
      obtain ⟨rv,hb,hst⟩:=wI kv hmk hrn
      have hleft:=rv.left
      simp only [cond_true,zj hk,ZaJ,yN,hrn,zq]
      have epb:(bif m.ZaA then true else bif k.ZaF then (xP c.off day).isSome else false)=(m.ZaA||(k.ZaF&&(xP c.off day).isSome)):=by cases m.ZaA<;>cases k.ZaF<;>rfl
      rw [epb]
      cases hp1:(m.ZaA||(k.ZaF&&(xP c.off day).isSome)) with
      | true=>simp only [cond_true,ZaJ,Bool.not_true,ZaI,jP h3]
      | false=>
        rw [zW (show -9223372036854775808≤m.left - 1 by omega) (by omega)]
        simp only [ZaI,ZaJ,wJ h3]
        cases hz:(m.left - 1 == 0) with
        | false=>simp only [ZaI,ZaJ,Bool.not_true]
        | true=>
          have hz':=beq_iff_eq.1 hz
          have hk0:(k.kind == 0)=false:=beq_eq_false_iff_ne.2 (by have:=kv.kind;omega)
          simp only [cond_true,hk0,ZaI,WM,wj,kX,zO hi,ZaJ,wJ h3,zj hk,zq]
          rw [J4 i 4 _ _ _ _ _ _ _ _ _ hi (wJ h3),J4 i 3 _ _ _ _ _ _ _ _ _ hi (wJ h3),J4 i 5 _ _ _ _ _ _ _ _ _ hi (wJ h3)]
          simp only [ZaJ,List.set_set,Zm,hz']
          cases h1:(k.kind == 1) with
          | true=>
            simp only [cond_true]
            have e3:(bif m.Zan == 1 then decide (0 < k.Zay) else false)=(m.Zan == 1&&decide (0 < k.Zay)):=by cases (m.Zan == 1)<;>rfl
            rw [e3]
            cases h4:(m.Zan == 1&&decide (0 < k.Zay))<;>simp
          | false=>
            cases h2:(k.kind == 2) with
            | true=>simp
            | false=>
              cases h3:(k.kind == 3) with
              | true=>simp
              | false=>
                have h4:(k.kind == 4)=true:=beq_iff_eq.2 (by have:=kv.kind;have:=beq_eq_false_iff_ne.1 h1;have:=beq_eq_false_iff_ne.1 h2;have:=beq_eq_false_iff_ne.1 h3;omega)
                simp [h4]
def ZM (act:Int) (k:Zam) (m:Zaa):Zaa:=
  bif jY m then (bif act == k.pause then {m with ZaA:=true} else bif act == k.ZaB then {m with ZaA:=false} else m) else m
def zc9 (k:Zam) (m:Zaa):Zaa:=bif m.got+1 == k.need then Zm 3 {m with got:=m.got+1} else {m with got:=m.got+1}
def zgp (k:Zam) (m:Zaa):Zaa:=bif k.kind == 1 then zc9 k m else bif k.kind == 2 then (bif m.ZaA then m else Zm 4 m) else Zm 3 m
def VQ (act by_:Int) (k:Zam) (m:Zaa):Zaa:=bif jY m then (bif k.act == act&&(k.kind == 4||m.Zav == by_) then zgp k m else m) else m
def J5 (a:Zau) (k:Zam) (m:Zaa):Zaa:=bif jY m then (bif !(k.kind == 4)&&k.Zaq == a.give then {m with Zav:=a.to} else m) else m
def jT (hs:List Int) (a:Zau):Int:=bif a.Zaq == -1 then -1 else hs[a.Zaq.toNat]?.getD 0
theorem zjM (c:Zab) (s:Zad) (i:Nat) (a:Zau) (ha:c.Zai[i]?=some a) (h:a.Zaq = -1∨(0≤a.Zaq∧a.Zaq < s.Zae.length)):kw c s i=some (jT s.Zae a):=by
  unfold kw jT
  simp only [zj ha,ZaJ]
  cases hr:(a.Zaq == -1) with
  | true=>rfl
  | false=>
    have h1:=beq_eq_false_iff_ne.1 hr
    obtain ⟨h2,h3⟩:=qW (l:=s.Zae) (n:=a.Zaq) (by omega) (by omega)
    simp only [ZaI,h3,ZaJ,List.getElem?_eq_getElem h2,Option.getD_some]
theorem zeT {c:Zab} {i:Nat} {k:Zam} {m:Zaa} {act:Int} (ha:0≤act) (kv:KV c i k) (h:jm c.Zap k m=true):jm c.Zap k (ZM act k m)=true:=by
  unfold ZM
  cases hr:jY m with
  | false=>exact h
  | true=>
    obtain ⟨rv,hb,hs⟩:=wI kv h hr
    obtain ⟨b1,b2,b3,b4,b5⟩:=jn.1 hb
    simp only [cond_true]
    cases h1:(act == k.pause) with
    | true=>exact yY hs (jn.2 ⟨b1,b2,fun _=>by have:=beq_iff_eq.1 h1;omega,b4,b5⟩)
    | false=>
      cases h2:(act == k.ZaB) with
      | true=>exact yY hs (jn.2 ⟨b1,b2,fun h=>absurd (show false=true from h) (by decide),b4,b5⟩)
      | false=>exact h
theorem zh7 {c:Zab} {i:Nat} {k:Zam} {m:Zaa} {act by_:Int} (hp:0 < c.Zap) (kv:KV c i k) (h:jm c.Zap k m=true):jm c.Zap k (VQ act by_ k m)=true:=by
  unfold VQ
  cases hr:jY m with
  | false=>exact h
  | true=>
    obtain ⟨rv,hb,hs⟩:=wI kv h hr
    obtain ⟨b1,b2,b3,b4,b5⟩:=jn.1 hb
    simp only [cond_true]
    cases h1:(k.act == act&&(k.kind == 4||m.Zav == by_)) with
    | false=>exact h
    | true=>
      simp only [cond_true,zgp]
      have hn:=kv.need
      cases h2:(k.kind == 1) with
      | true=>
        have hk:=beq_iff_eq.1 h2
        simp only [cond_true,zc9]
        cases h3:(m.got+1 == k.need) with
        | true=>
          have h3':=beq_iff_eq.1 h3
          refine xQ.2 (.inr (.inr (.inr ⟨.inl rfl,?_⟩)))
          have e1:decide (0≤m.got+1)=true:=decide_eq_true (by omega)
          have e2:decide (m.got+1≤9)=true:=decide_eq_true (by omega)
          have e3:decide (-1≤m.Zav)=true:=decide_eq_true (by omega)
          have e4:decide (m.Zav < c.Zap)=true:=decide_eq_true (by omega)
          show ((0:Int) == 0&&(decide (0≤m.got+1)&&(decide (m.got+1≤9)&&(decide (-1≤m.Zav)&&(decide (m.Zav < c.Zap) && !false)))))=true
          rw [e1,e2,e3,e4];rfl
        | false=>
          have h3':=beq_eq_false_iff_ne.1 h3
          refine yY hs (jn.2 ⟨b1,b2,b3,.inr ⟨hk,?_,?_⟩,b5⟩)
          · show 0≤m.got+1;omega
          · show m.got+1 < k.need;omega
      | false=>
        simp only [ZaI]
        cases h3:(k.kind == 2) with
        | true=>
          simp only [cond_true]
          cases m.ZaA with
          | true=>exact h
          | false=>exact ZL kv rv hp (by omega)
        | false=>exact ZL kv rv hp (by omega)
theorem zgq {c:Zab} {i:Nat} {k:Zam} {m:Zaa} {a:Zau} (kv:KV c i k) (ht:0≤a.to∧a.to < c.Zap) (h:jm c.Zap k m=true):jm c.Zap k (J5 a k m)=true:=by
  unfold J5
  cases hr:jY m with
  | false=>exact h
  | true=>
    obtain ⟨rv,hb,hs⟩:=wI kv h hr
    obtain ⟨b1,b2,b3,b4,b5⟩:=jn.1 hb
    simp only [cond_true]
    cases h1:(!(k.kind == 4)&&k.Zaq == a.give) with
    | false=>exact h
    | true=>
      simp only [Bool.and_eq_true,Bool.not_eq_true',beq_eq_false_iff_ne] at h1
      exact yY hs (jn.2 ⟨b1,b2,b3,b4,.inr ⟨h1.1,ht.1,ht.2⟩⟩)
def ms1 (c:Zab) (act:Int) (ms:List Zaa):List Zaa:=ms.mapIdx (atK c (ZM act))
def ms2 (c:Zab) (act:Int) (a:Zau) (hs:List Int) (ms:List Zaa):List Zaa:=(ms1 c act ms).mapIdx (atK c (VQ act (jT hs a)))
def ms3 (c:Zab) (act:Int) (a:Zau) (hs:List Int) (ms:List Zaa):List Zaa:=bif a.kind == 3 then (ms2 c act a hs ms).mapIdx (atK c (J5 a)) else ms2 c act a hs ms
def hs3 (a:Zau) (hs:List Int):List Int:=bif a.kind == 1 then hs else hs.set a.give.toNat a.to
def us3 (i:Nat) (a:Zau) (us:List Bool):List Bool:=bif a.kind == 1 then us else us.set i true
theorem zeU {c:Zab} {act:Int} {ms:List Zaa} (ho:c.off.length < 4611686018427387904) (hv:(qg c).1=0) (ha:0≤act) (hm:MOk c ms):MOk c (ms1 c act ms):=
  hm.mapIdx _ fun i k m hk h=>zeT ha (ye ho hv hk) h
theorem zaR {c:Zab} {act:Int} {a:Zau} {hs:List Int} {ms:List Zaa} (ho:c.off.length < 4611686018427387904) (hv:(qg c).1=0) (ha:0≤act) (hm:MOk c ms):MOk c (ms2 c act a hs ms):=
  (zeU ho hv ha hm).mapIdx _ fun i k m hk h=>zh7 (by have:=(qt ho hv).Zap;omega) (ye ho hv hk) h
theorem zjN {c:Zab} {act:Int} {a:Zau} {hs:List Int} {ms:List Zaa} (ho:c.off.length < 4611686018427387904) (hv:(qg c).1=0) (ha:0≤act) (av:AV2 c a) (hm:MOk c ms):MOk c (ms3 c act a hs ms):=by
  unfold ms3
  cases h3:(a.kind == 3) with
  | false=>exact zaR ho hv ha hm
  | true=>
    refine (zaR ho hv ha hm).mapIdx _ fun i k m hk h=>zgq (ye ho hv hk) ?_ h
    have:=beq_iff_eq.1 h3
    have:=av.kind
    omega
theorem zjO (c:Zab) (day:Int) (hs:List Int) (us:List Bool) (ms:List Zaa) (i:Nat) (a:Zau) (ho:c.off.length < 4611686018427387904) (hv:(qg c).1=0) (hh:hs.length=c.Zae.length) (hu:us.length=c.Zai.length)
    (ha:c.Zai[i]?=some a) (hm:MOk c ms) :
    Qn i c day hs hs.length us us.length ms ms.length=(bif !(a.kind == 1)&&us[i]?.getD false then some (hs,us,ms) else
      (vg c day (hs3 a hs) (us3 i a us) (ms3 c i a hs ms)).bind fun r=>some (hs3 a hs,us3 i a us,r)):=by
  have sm:=qt ho hv
  have hcl:=sm.Zag
  have hl:=hm.1
  have av:=Kr hv ha
  have hia:i < c.Zai.length:=(List.getElem?_eq_some_iff.1 ha).1
  have hiu:i < us.length:=by omega
  unfold Qn
  have eU:(bif a.kind == 1 then some false else (Option.bind (zl us.length (i:Int)) fun k1=>(Option.bind (us[k1]?) fun e2=>some e2)))=some (!(a.kind == 1)&&us[i]?.getD false):=by
    simp only [zO hiu,ZaJ,List.getElem?_eq_getElem hiu,Option.getD_some]
    cases (a.kind == 1)<;>rfl
  simp only [zj ha,ZaJ]
  rw [eU]
  simp only [ZaJ]
  cases hearly:(!(a.kind == 1)&&us[i]?.getD false) with
  | true=>rfl
  | false=>
    simp only [ZaI,xi,ZaJ]
    rw [wc ms (atK c (ZM i)) (by omega) ?p1]
    case p1=>
      intro j m s h1 h2 h3
      have hj:j < ms.length:=(List.getElem?_eq_some_iff.1 h1).1
      have hk:=List.getElem?_eq_getElem (show j < c.Zag.length by omega)
      simp only [zO hj,ZaJ,h3,Zf,atK,hk,ZM]
      generalize c.Zag[j]=k at hk
      cases hrn:jY m with
      | false=>simp only [ZaI,ZaJ,jP h3]
      | true=>
        simp only [cond_true,zj hk,ZaJ]
        cases ((i:Int) == k.pause) with
        | true=>simp only [cond_true,ZaJ,Bool.not_true,ZaI]
        | false=>
          simp only [ZaI]
          cases ((i:Int) == k.ZaB) with
          | true=>simp only [cond_true,ZaJ,Bool.not_true,ZaI]
          | false=>simp only [ZaI,ZaJ,Bool.not_true,jP h3]
    simp only [ZaJ,Sum.elim_inl]
    show Option.bind (eqN hs.length hs.length) _=_
    simp only [Qv,ZaJ,xp (show ms.length=(ms.mapIdx (atK c (ZM (i:Int)))).length by simp)]
    rw [zjM c _ i a ha (by have:=av.Zaq;simp only;omega)]
    simp only [ZaJ]
    have m1ok:=zeU (act:=(i:Int)) ho hv (by omega) hm
    have hlen1:(ms.length:Int)=((ms1 c i ms).length:Int):=by simp [ms1]
    show Option.bind (Option.bind (forR (ms.length:Int) _ (ms1 c i ms)) _) _=_
    rw [hlen1]
    rw [wc (ms1 c i ms) (atK c (VQ i (jT hs a))) (by simp [ms1];omega) ?p2]
    case p2=>
      intro j m s h1 h2 h3
      have hj1:j < (ms1 c i ms).length:=(List.getElem?_eq_some_iff.1 h1).1
      have hj:j < ms.length:=by simpa [ms1] using hj1
      have hk:=List.getElem?_eq_getElem (show j < c.Zag.length by omega)
      have kv:=ye ho hv hk
      have hmk:=m1ok.2 j _ _ hk h1
      simp only [zO hj,ZaJ,h3,Zf,atK,hk,VQ]
      generalize c.Zag[j]=k at hk kv hmk
      cases hrn:jY m with
      | false=>simp only [ZaI,ZaJ,jP h3]
      | true=>
        obtain ⟨rv,hb,hst⟩:=wI kv hmk hrn
        simp only [cond_true,zj hk,ZaJ]
        have eT:(bif k.act == (i:Int) then (bif k.kind == 4 then some true else some (m.Zav == jT hs a)) else some false)=some (k.act == (i:Int)&&(k.kind == 4||m.Zav == jT hs a)):=by
          cases (k.act == (i:Int))<;>cases (k.kind == 4)<;>rfl
        rw [eT]
        simp only [ZaJ]
        cases (k.act == (i:Int)&&(k.kind == 4||m.Zav == jT hs a)) with
        | false=>simp only [ZaI,ZaJ,Bool.not_true,jP h3]
        | true=>
          have hgot:=rv.got
          have hneed:=kv.need
          have hk0:(k.kind == 0)=false:=beq_eq_false_iff_ne.2 (by have:=kv.kind;omega)
          simp only [cond_true,hk0,ZaI,WO,WN,wj,zO hj,ZaJ,h3,wJ h3,zj hk,zgp,zc9]
          rw [zW (show -9223372036854775808≤m.got+1 by omega) (by omega)]
          rw [J4 j 3 _ _ _ _ _ _ _ _ _ hj h3,J4 j 3 _ _ _ _ _ _ _ _ _ hj (wJ h3),J4 j 4 _ _ _ _ _ _ _ _ _ hj h3]
          simp only [ZaJ,List.set_set]
          cases e1:(k.kind == 1) with
          | true=>cases (m.got+1 == k.need)<;>simp
          | false=>
            cases e2:(k.kind == 2) with
            | true=>cases m.ZaA<;>simp [jP h3]
            | false=>
              cases e3:(k.kind == 3) with
              | true=>simp
              | false=>
                have h4:(k.kind == 4)=true:=beq_iff_eq.2 (by have:=kv.kind;have:=beq_eq_false_iff_ne.1 e1;have:=beq_eq_false_iff_ne.1 e2;have:=beq_eq_false_iff_ne.1 e3;omega)
                simp [h4]
    simp only [ZaJ,Sum.elim_inl]
    show Option.bind (bif a.kind == 1 then some (hs,us,ms2 c i a hs ms) else _) _=_
    have m2ok:=zaR (act:=(i:Int)) (a:=a) (hs:=hs) ho hv (by omega) hm
    cases h1:(a.kind == 1) with
    | true=>
      have h3:(a.kind == 3)=false:=beq_eq_false_iff_ne.2 (by have:=beq_iff_eq.1 h1;omega)
      simp only [cond_true,ZaJ,hs3,us3,ms3,h1,h3,ZaI]
      unfold vg
      rw [show (ms2 c i a hs ms).length=ms.length by simp [ms2,ms1]]
    | false=>
      have hak:=av.kind.resolve_left (beq_eq_false_iff_ne.1 h1)
      have hg:a.give.toNat < hs.length:=by omega
      simp only [ZaI,WP,zj ha,ZaJ]
      rw [zbQ (show 0≤a.give by omega) (by omega),zO hiu]
      simp only [ZaJ,List.getElem?_eq_getElem hg,List.getElem?_eq_getElem hiu,xi,hs3,us3,ms3,h1,ZaI]
      cases h3:(a.kind == 3) with
      | false=>
        simp only [ZaI,ZaJ]
        unfold vg
        rw [show (ms2 c i a hs ms).length=ms.length by simp [ms2,ms1],List.length_set,List.length_set]
        rfl
      | true=>
        simp only [cond_true]
        have hlen2:(ms.length:Int)=((ms2 c i a hs ms).length:Int):=by simp [ms2,ms1]
        rw [hlen2,show List.mapIdx (atK c (VQ (i:Int) (jT hs a))) (ms1 c i ms)=ms2 c i a hs ms from rfl]
        rw [wc (ms2 c i a hs ms) (atK c (J5 a)) (by simp [ms2,ms1];omega) ?p3]
        case p3=>
          intro j m s h1 h2 h3
          have hj1:j < (ms2 c i a hs ms).length:=(List.getElem?_eq_some_iff.1 h1).1
          have hj:j < ms.length:=by simpa [ms2,ms1] using hj1
          have hk:=List.getElem?_eq_getElem (show j < c.Zag.length by omega)
          simp only [zO hj,ZaJ,h3,Zf,atK,hk,J5]
          generalize c.Zag[j]=k at hk
          cases hrn:jY m with
          | false=>simp only [ZaI,ZaJ,jP h3]
          | true=>
            simp only [cond_true,zj hk,ZaJ]
            cases (k.kind == 4) with
            | true=>simp only [cond_true,ZaJ,Bool.not_true,Bool.false_and,ZaI,jP h3]
            | false=>
              simp only [ZaI,ZaJ,Bool.not_false,Bool.true_and]
              cases (k.Zaq == a.give) with
              | true=>simp only [cond_true,ZaJ,Bool.not_true,ZaI]
              | false=>simp only [ZaI,ZaJ,Bool.not_true,jP h3]
        simp only [ZaJ,Sum.elim_inl]
        unfold vg
        rw [show ((ms2 c i a hs ms).mapIdx (atK c (J5 a))).length=ms.length by simp [ms2,ms1],List.length_set,List.length_set]
def noS:Zad:={day:=0,Zae:=[],used:=[],Zal:=[]}
def zjP (c:Zab) (i:Nat) (a:Zau) (s r:Zad):Prop:=
  (a.kind≠1∧s.used[i]?=some true∧r=s)∨((a.kind=1∨s.used[i]?=some false)∧r.day=s.day∧r.Zae=hs3 a s.Zae∧r.used=us3 i a s.used∧StartP c (hs3 a s.Zae) (ms3 c i a s.Zae s.Zal) r.Zal)
def zhd (c:Zab) (s r:Zad):Prop:=r.day=s.day+1∧r.Zae=s.Zae∧r.used=s.used∧StartP c s.Zae (s.Zal.mapIdx (atK c (yN (xP c.off s.day).isSome))) r.Zal
theorem Jt {b n:Nat} (h:n < 1000) (hb:b≤1000):mkN b (n:Int)=some n:=by
  unfold mkN
  have:n*b≤1000*1000:=Nat.mul_le_mul (by omega) hb
  rw [if_pos ⟨by omega,by omega,by omega⟩];simp
theorem XN {α:Type} {l d:List α} {k:Nat} (h:k=d.length) (h2:l.length=k):xC k d l=some l:=by unfold xC;rw [if_pos ⟨h,h2⟩]
theorem zh8 {α:Type} {l:List α} {i:Nat} {x y:α} (h:y∈l.set i x):y∈l∨y=x:=List.mem_or_eq_of_mem_set h
theorem zgr {c:Zab} {s:Zad} {a:Int} (hc:c.Ok) (hv:VS c s) (h1 : -1≤a) (h2:a < c.Zai.length) (hd:s.day < c.Zat) :
    Ret (d_Step c s a) (fun r=>r.2=0∧VS c r.1∧(a = -1→zhd c s r.1)∧(∀ (i:Nat) (x:Zau),a=(i:Int)→c.Zai[i]?=some x→zjP c i x s r.1)):=by
  have ho:=hc.off.lt (by omega:0 < 8)
  have sm:=qt ho hv.cv
  have s1:=sm.Zae
  have s2:=sm.Zai
  have s3:=sm.Zag
  have sd:=sm.Zat
  have hlh:=hv.lh
  have hlu:=hv.lu
  have hlm:=hv.lm
  have hday:=hv.day
  have hmo:MOk c s.Zal:=⟨hlm,fun i k m hk hm=>hv.mrk i k m hk hm⟩
  unfold d_Step
  have e1:decide (a < -1)=false:=decide_eq_false (by omega)
  have e2:decide ((c.Zai.length:Int)≤a)=false:=decide_eq_false (by omega)
  refine Ret.bindE (v:=false) (by rw [Qu c s hc,W7 hv,e1,e2];rfl) ?_
  refine Ret.ite (fun h=>by cases h) (fun _ => ?_)
  refine Ret.ite (fun h=>absurd (beq_iff_eq.1 h) (by omega)) (fun _ => ?_)
  refine Ret.bindE (Jt (show s.Zae.length < 1000 by omega) (by omega)) ?_
  refine Ret.bindE (Jt (show s.used.length < 1000 by omega) (by omega)) ?_
  refine Ret.bindE (Jt (show s.Zal.length < 1000 by omega) (by omega)) ?_
  refine Ret.bindE (XN (by simp) rfl) ?_
  refine Ret.bindE (XN (by simp) rfl) ?_
  refine Ret.bindE (XN (by simp) rfl) ?_
  cases ht:(a == (-1:Int)) with
  | true=>
    have ha:=beq_iff_eq.1 ht
    simp only [cond_true]
    rw [zh6 c s.day s.Zae s.used s.Zal ho hv.cv hmo (by omega)]
    have hmo2:MOk c (s.Zal.mapIdx (atK c (yN (xP c.off s.day).isSome))):=hmo.mapIdx _ fun i k m hk h=>zgo _ (ye ho hv.cv hk) (by have:=sm.Zap;omega) h
    refine Ret.bind (P:=fun v:List Int×List Bool×List Zaa×Int=>v.1=s.Zae∧v.2.1=s.used∧v.2.2.2=s.day+1∧StartP c s.Zae (s.Zal.mapIdx (atK c (yN (xP c.off s.day).isSome))) v.2.2.1)
      (Ret.bind (Js c (s.day+1) s.Zae s.used _ ho hv.cv hlh hv.hold hmo2) fun r hr=>Ret.some ⟨rfl,rfl,zW (by omega) (by omega),hr⟩) ?_
    rintro ⟨v1,v2,v3,v4⟩ ⟨q1,q2,q3,q4⟩
    simp only at q1 q2 q3 q4
    subst q1;subst q2;subst q3
    have hl3:s.Zal.length=v3.length:=by have:=q4.ok.1;omega
    simp only [Qv,xp hl3,ZaJ]
    refine Ret.some ⟨rfl,⟨hv.cv,⟨by show 0≤s.day+1;omega,by show s.day+1≤c.Zat;omega⟩,hlh,hlu,q4.ok.1,hv.hold,hv.used,q4.ok.2,q4.nr⟩,fun _=>⟨rfl,rfl,rfl,q4⟩,fun i x hi=>by omega⟩
  | false=>
    have ha:=beq_eq_false_iff_ne.1 ht
    obtain ⟨i,rfl⟩:∃ i:Nat,a=(i:Int):=⟨a.toNat,by omega⟩
    have hi:i < c.Zai.length:=by omega
    have hx:=List.getElem?_eq_getElem hi
    generalize c.Zai[i]=x at hx
    have av:=Kr hv.cv hx
    simp only [ZaI]
    rw [zjO c s.day s.Zae s.used s.Zal i x ho hv.cv hlh hlu hx hmo]
    have hiu:i < s.used.length:=by omega
    cases hearly:(!(x.kind == 1)&&s.used[i]?.getD false) with
    | true=>
      simp only [cond_true,ZaJ,Qv]
      refine Ret.some ⟨rfl,hv,fun h=>by omega,fun j y hj hy => ?_⟩
      obtain rfl:i=j:=by omega
      rw [hx] at hy;cases hy
      simp only [Bool.and_eq_true,Bool.not_eq_true',beq_eq_false_iff_ne,List.getElem?_eq_getElem hiu,Option.getD_some] at hearly
      exact .inl ⟨hearly.1,by rw [List.getElem?_eq_getElem hiu,hearly.2],rfl⟩
    | false=>
      simp only [ZaI]
      have hkd:=av.kind
      have hh3:(hs3 x s.Zae).length=c.Zae.length:=by unfold hs3;cases (x.kind == 1)<;>simp [hlh]
      have hu3:(us3 i x s.used).length=c.Zai.length:=by unfold us3;cases (x.kind == 1)<;>simp [hlu]
      have hb3:∀ h∈hs3 x s.Zae,0≤h∧h < c.Zap:=by
        unfold hs3
        cases hk1:(x.kind == 1) with
        | true=>exact hv.hold
        | false=>
          intro h hh
          have:=hkd.resolve_left (beq_eq_false_iff_ne.1 hk1)
          rcases zh8 hh with h' | h'
          · exact hv.hold h h'
          · omega
      have hus3:∀ (j:Nat) (y:Zau),c.Zai[j]?=some y→(us3 i x s.used)[j]?=some true→y.kind≠1:=by
        unfold us3
        cases hk1:(x.kind == 1) with
        | true=>exact hv.used
        | false=>
          intro j y hy hj
          simp only [ZaI] at hj
          rw [List.getElem?_set] at hj
          by_cases hij:i=j
          · subst hij
            rw [hx] at hy;cases hy
            exact beq_eq_false_iff_ne.1 hk1
          · rw [if_neg hij] at hj;exact hv.used j y hy hj
      refine Ret.bind (P:=fun v:List Int×List Bool×List Zaa×Int=>v.1=hs3 x s.Zae∧v.2.1=us3 i x s.used∧v.2.2.2=s.day∧StartP c (hs3 x s.Zae) (ms3 c i x s.Zae s.Zal) v.2.2.1)
        (Ret.bind (P:=fun v:List Int×List Bool×List Zaa=>v.1=hs3 x s.Zae∧v.2.1=us3 i x s.used∧StartP c (hs3 x s.Zae) (ms3 c i x s.Zae s.Zal) v.2.2) (Ret.bind (Js c s.day _ (us3 i x s.used) _ ho hv.cv hh3 hb3 (zjN ho hv.cv (by omega) av hmo)) fun r hr=>Ret.some ⟨rfl,rfl,hr⟩) fun v hv'=>Ret.some ⟨hv'.1,hv'.2.1,rfl,hv'.2.2⟩) ?_
      rintro ⟨v1,v2,v3,v4⟩ ⟨q1,q2,q3,q4⟩
      simp only at q1 q2 q3 q4
      subst q1;subst q2;subst q3
      have hl3:s.Zal.length=v3.length:=by have:=q4.ok.1;omega
      simp only [xp (show s.Zae.length=(hs3 x s.Zae).length by omega),xp (show s.used.length=(us3 i x s.used).length by omega),xp hl3,ZaJ]
      refine Ret.some ⟨rfl,⟨hv.cv,hday,hh3,hu3,q4.ok.1,hb3,hus3,q4.ok.2,q4.nr⟩,fun h=>by omega,fun j y hj hy => ?_⟩
      obtain rfl:i=j:=by omega
      rw [hx] at hy;cases hy
      refine .inr ⟨?_,rfl,rfl,rfl,q4⟩
      simp only [Bool.and_eq_false_iff,Bool.not_eq_false',beq_iff_eq,List.getElem?_eq_getElem hiu,Option.getD_some] at hearly
      rcases hearly with h | h
      · exact .inl h
      · exact .inr (by rw [List.getElem?_eq_getElem hiu,h])
noncomputable def z8 (c:Zab) (s:Zad) (a:Int):Zad:=((d_Step c s a).getD (noS,1)).1
theorem xX {c:Zab} {s:Zad} {a:Int} (hc:c.Ok) (hv:VS c s) (h1 : -1≤a) (h2:a < c.Zai.length) (hd:s.day < c.Zat) :
    d_Step c s a=some (z8 c s a,0)∧VS c (z8 c s a)∧(a = -1→zhd c s (z8 c s a))∧(∀ (i:Nat) (x:Zau),a=(i:Int)→c.Zai[i]?=some x→zjP c i x s (z8 c s a)):=by
  obtain ⟨⟨r1,r2⟩,e,h⟩:=zgr hc hv h1 h2 hd
  have e2:z8 c s a=r1:=by unfold z8;rw [e];rfl
  rw [e2,e]
  obtain ⟨h0,h⟩:=h
  simp only at h0 h
  subst h0
  exact ⟨rfl,h⟩
theorem VR {α:Type} [BEq α] [LawfulBEq α] {f:Nat→Unit→Option (Unit ⊕ Unit)} (a b:List α) (hl:a.length=b.length) (ha:a.length < 4611686018427387904) (h:∀ (i:Nat) (h1:i < a.length) (h2:i < b.length),f i ()=some (bif a[i] == b[i] then .inl () else .inr ())) :
    forR (a.length:Int) f ()=some (bif a == b then .inl () else .inr ()):=by
  rw [Zd (fun i=>a[i]? == b[i]?) ha (fun i hi=>by
    rw [h i hi (by omega),List.getElem?_eq_getElem hi,List.getElem?_eq_getElem (show i < b.length by omega)]
    show _=some (bif (some a[i] == some b[i]) then _ else _)
    rfl)]
  congr 2
  rw [Bool.eq_iff_iff,List.all_eq_true]
  constructor
  · intro hh
    rw [beq_iff_eq]
    refine List.ext_getElem? fun i => ?_
    by_cases hi:i < a.length
    · exact beq_iff_eq.1 (hh i (List.mem_range.2 hi))
    · rw [List.getElem?_eq_none (by omega),List.getElem?_eq_none (by omega)]
  · intro hh i _
    rw [beq_iff_eq.1 hh];exact beq_self_eq_true _
theorem VT {α:Type} (a b:List α):((a.length:Int) == (b.length:Int))=decide (a.length=b.length):=by
  by_cases h:a.length=b.length
  · simp [h]
  · simp only [h,decide_false];exact beq_eq_false_iff_ne.2 (by omega)
theorem zlk (a b:List Int) (ha:a.length < 4611686018427387904):Km a b=some (a == b):=by
  unfold Km
  rw [VT]
  by_cases h:a.length=b.length
  · simp only [h,decide_true,cond_true]
    rw [←h,VR a b h ha (fun i h1 h2=>by
      simp only [qr,List.getElem?_eq_getElem h1,List.getElem?_eq_getElem h2,ZaJ,zq])]
    cases (a == b)<;>rfl
  · simp only [h,decide_false,ZaI]
    have:a≠b:=fun e=>h (by rw [e])
    rw [beq_eq_false_iff_ne.2 this]
theorem zll (a b:List Bool) (ha:a.length < 4611686018427387904):Kn a b=some (a == b):=by
  unfold Kn
  rw [VT]
  by_cases h:a.length=b.length
  · simp only [h,decide_true,cond_true]
    rw [←h,VR a b h ha (fun i h1 h2=>by
      simp only [qr,List.getElem?_eq_getElem h1,List.getElem?_eq_getElem h2,ZaJ,zq])]
    cases (a == b)<;>rfl
  · simp only [h,decide_false,ZaI]
    have:a≠b:=fun e=>h (by rw [e])
    rw [beq_eq_false_iff_ne.2 this]
instance:BEq Zaa:=⟨fun a b=>(a.Zan == b.Zan)&&((a.left == b.left)&&((a.got == b.got)&&((a.Zav == b.Zav)&&((a.ZaA == b.ZaA)&&true))))⟩
instance:LawfulBEq Zaa where
  eq_of_beq {a b} h:=by
    have h':((a.Zan == b.Zan)&&((a.left == b.left)&&((a.got == b.got)&&((a.Zav == b.Zav)&&((a.ZaA == b.ZaA)&&true)))))=true:=h
    simp only [Bool.and_eq_true,beq_iff_eq,and_true] at h'
    obtain ⟨h1,h2,h3,h4,h5⟩:=h'
    cases a;cases b;simp_all
  rfl {a}:=by
    show ((a.Zan == a.Zan)&&((a.left == a.left)&&((a.got == a.got)&&((a.Zav == a.Zav)&&((a.ZaA == a.ZaA)&&true)))))=true
    simp
theorem zlm (a b:List Zaa) (ha:a.length < 4611686018427387904):Ko a b=some (a == b):=by
  unfold Ko
  rw [VT]
  by_cases h:a.length=b.length
  · simp only [h,decide_true,cond_true]
    rw [←h,VR a b h ha (fun i h1 h2=>by
      simp only [qr,List.getElem?_eq_getElem h1,List.getElem?_eq_getElem h2,ZaJ,zq];rfl)]
    cases (a == b)<;>rfl
  · simp only [h,decide_false,ZaI]
    have:a≠b:=fun e=>h (by rw [e])
    rw [beq_eq_false_iff_ne.2 this]
def wk (a b:Zad):Bool:=a.day == b.day&&(a.Zae == b.Zae&&(a.used == b.used&&a.Zal == b.Zal))
theorem wK {a b:Zad}:wk a b=true↔a=b:=by
  unfold wk
  simp only [Bool.and_eq_true,beq_iff_eq]
  constructor
  · rintro ⟨h1,h2,h3,h4⟩
    cases a;cases b;simp_all
  · rintro rfl;exact ⟨rfl,rfl,rfl,rfl⟩
theorem zh9 (a b:Zad) (h1:a.Zae.length < 4611686018427387904) (h2:a.used.length < 4611686018427387904) (h3:a.Zal.length < 4611686018427387904):ZF a b=some (wk a b):=by
  unfold ZF wk
  rw [zlk _ _ h1,zll _ _ h2,zlm _ _ h3]
  simp only [ZaJ,zq,Bool.cond_false_right]
theorem VS.few {c:Zab} {s:Zad} (hc:c.Ok) (h:VS c s):s.Zae.length≤12∧s.used.length≤60∧s.Zal.length≤400:=by
  have sm:=qt (hc.off.lt (by omega)) h.cv
  have:=sm.Zae
  have:=sm.Zai
  have:=sm.Zag
  have:=h.lh
  have:=h.lu
  have:=h.lm
  omega
theorem zaS {c:Zab} {s:Zad} (hc:c.Ok) (h:VS c s):wt s=some s:=by
  have:=h.few hc
  unfold wt
  rw [Zc (by omega),Zc (by omega),Zc (by omega)]
  rfl
noncomputable def Qw (c:Zab) (zw:Int) (s:Zad):Bool:=decide (0≤zw)&&(decide (zw < c.Zap)&&vsB c s)
theorem W9 {c:Zab} (hc:c.Ok) (zw:Int) (p:Zah):ve c zw p=some (Qw c zw p.state):=by
  unfold ve Qw
  rw [Qu c _ hc]
  simp only [ZaJ,zq,Bool.cond_false_right]
theorem YG {c:Zab} {zw:Int} {s:Zad}:Qw c zw s=true↔0≤zw∧zw < c.Zap∧VS c s:=by
  simp only [Qw,Bool.and_eq_true,decide_eq_true_eq]
  exact ⟨fun ⟨a,b,d⟩=>⟨a,b,zlj d⟩,fun ⟨a,b,d⟩=>⟨a,b,W7 d⟩⟩
noncomputable def mvB (c:Zab) (zw:Int) (p:Zah) (i:Nat):Bool:=match c.Zai[i]? with
  | some a=>((jT p.state.Zae a == zw) == p.own) && !wk (z8 c p.state i) p.state
  | none=>false
noncomputable def qS (c:Zab) (zw:Int) (p:Zah) (n:Nat):List Int:=((List.range n).filter (mvB c zw p)).map fun i:Nat=>(i:Int)
noncomputable def zu (c:Zab) (zw:Int) (p:Zah):List Int:=
  (bif p.own then [-2] else [])++(bif decide (c.Zat≤p.state.day) then [] else (bif p.own then [] else [-1])++qS c zw p c.Zai.length)
noncomputable def target (c:Zab) (p:Zah) (move:Int):Zah:=if move = -2 then {state:=p.state,own:=false} else {state:=z8 c p.state move,own:=true}
theorem yO (c:Zab) (zw:Int) (p:Zah) (n:Nat):qS c zw p (n+1)=qS c zw p n++(bif mvB c zw p n then [(n:Int)] else []):=by
  unfold qS
  rw [List.range_succ,List.filter_append,List.map_append]
  congr 1
  cases h:mvB c zw p n<;>simp [h]
theorem YH (c:Zab) (zw:Int) (p:Zah) (n:Nat):(qS c zw p n).length≤n:=by
  unfold qS
  rw [List.length_map]
  have:=List.length_filter_le (mvB c zw p) (List.range n)
  simpa using this
theorem zgs {c:Zab} {s:Zad} {a:Zau} (hv:VS c s) (av:AV2 c a):(bif a.Zaq == (-1) then some (-1) else (Option.bind (ze s.Zae a.Zaq) fun e2=>some e2))=some (jT s.Zae a):=by
  unfold jT
  cases hr:(a.Zaq == (-1:Int)) with
  | true=>rfl
  | false=>
    have h1:=beq_eq_false_iff_ne.1 hr
    have:=av.Zaq
    have:=hv.lh
    obtain ⟨h2,h3⟩:=qW (l:=s.Zae) (n:=a.Zaq) (by omega) (by omega)
    rw [h3,List.getElem?_eq_getElem h2];rfl
theorem XO {c:Zab} {zw:Int} {p:Zah} {n:Nat} {x:Int}:x∈qS c zw p n↔∃ i:Nat,i < n∧mvB c zw p i=true∧x=(i:Int):=by
  unfold qS
  simp only [List.mem_map,List.mem_filter,List.mem_range]
  constructor
  · rintro ⟨i,⟨a,b⟩,rfl⟩;exact ⟨i,a,b,rfl⟩
  · rintro ⟨i,a,b,rfl⟩;exact ⟨i,⟨a,b⟩,rfl⟩
theorem jh {c:Zab} {zw:Int} {p:Zah} {x:Int}:x∈zu c zw p↔(p.own=true∧x = -2)∨(p.state.day < c.Zat∧p.own=false∧x = -1)∨(p.state.day < c.Zat∧∃ i:Nat,i < c.Zai.length∧mvB c zw p i=true∧x=(i:Int)):=by
  unfold zu
  by_cases hd:c.Zat≤p.state.day
  · have:¬ p.state.day < c.Zat:=by omega
    simp only [hd,decide_true,cond_true,List.append_nil,this,false_and,or_false]
    cases p.own<;>simp
  · have:p.state.day < c.Zat:=by omega
    simp only [hd,decide_false,ZaI,List.mem_append,XO,this,true_and]
    cases p.own<;>simp
theorem zgt (c:Zab) (zw:Int) (p:Zah) (n:Nat):(qS c zw p n).Pairwise (· < ·):=by
  unfold qS
  refine List.Pairwise.map _ (R:=fun a b:Nat=>a < b) (fun a b h=>by omega) ?_
  exact List.Pairwise.filter _ List.pairwise_lt_range
theorem zeV (c:Zab) (zw:Int) (p:Zah):(zu c zw p).Pairwise (· < ·):=by
  unfold zu
  refine List.pairwise_append.2 ⟨by cases p.own<;>simp,?_,?_⟩
  · cases decide (c.Zat≤p.state.day) with
    | true=>exact List.Pairwise.nil
    | false=>
      refine List.pairwise_append.2 ⟨by cases p.own<;>simp,zgt c zw p _,fun a ha b hb => ?_⟩
      obtain ⟨i,_,_,rfl⟩:=XO.1 hb
      cases hp:p.own with
      | true=>rw [hp] at ha;simp at ha
      | false=>rw [hp] at ha;simp at ha;omega
  · intro a ha b hb
    cases hp:p.own with
    | false=>rw [hp] at ha;simp at ha
    | true=>
      rw [hp] at ha hb
      simp at ha
      cases hd:decide (c.Zat≤p.state.day) with
      | true=>rw [hd] at hb;simp at hb
      | false=>
        rw [hd] at hb
        simp only [ZaI,cond_true,List.nil_append] at hb
        obtain ⟨i,_,_,rfl⟩:=XO.1 hb
        omega
def Va (s:Zad):Int×List Int×List Bool×List Zaa:=(s.day,s.Zae,s.used,s.Zal)
def zaT (c:Zab) (n:Int):Bool:=
  !(decide (20 < (c.Zae.length:Int))||(decide (30 < (c.Zaw.length:Int))||(decide (70 < (c.Zai.length:Int))||(decide (n < (c.Zag.length:Int))||decide (100 < (c.off.length:Int))))))&&c.Zag.all (fun k=>!decide (20 < (k.start.length:Int)))
theorem zeW (c:Zab) (n:Int) (hc:c.Zag.length < 4611686018427387904):kZ c n=some (zaT c n):=by
  unfold kZ zaT
  rw [kD (l:=c.Zag) (fun k=>!decide (20 < (k.start.length:Int))) hc (fun i hi=>by
    simp only [qr,List.getElem?_eq_getElem hi,ZaJ]
    cases decide (20 < (c.Zag[i].start.length:Int))<;>rfl)]
  simp only [zq,ZaJ,Bool.cond_true_left]
  cases (decide (20 < (c.Zae.length:Int))||(decide (30 < (c.Zaw.length:Int))||(decide (70 < (c.Zai.length:Int))||(decide (n < (c.Zag.length:Int))||decide (100 < (c.off.length:Int)))))) <;>
    cases c.Zag.all (fun k=>!decide (20 < (k.start.length:Int)))<;>rfl
def zhe (c:Zab):Bool:=zaT c 6&&(decide ((c.Zai.length:Int)≤8)&&decide (c.Zat≤20))
theorem zjQ {c:Zab} (hc:c.Ok):W0 c=some (zhe c):=by
  unfold W0 zhe
  rw [zeW c 6 (hc.Zag.lt (by omega))]
  simp only [zq,ZaJ,Bool.cond_false_right]
theorem yg {d:Nat} (h:d < 10):(UInt8.ofNat (48+d)).toNat=48+d:=by
  rw [UInt8.toNat_ofNat'];omega
theorem Ju:∀ (u:Nat),∀ b∈Lib.decDigits u,48≤b.toNat∧b.toNat≤57:=by
  intro u
  induction u using Nat.strongRecOn with
  | _ u ih=>
    intro b hb
    rw [Lib.decDigits] at hb
    by_cases h:u < 10
    · rw [dif_pos h] at hb
      simp only [List.mem_singleton] at hb
      subst hb
      rw [yg h];omega
    · rw [dif_neg h] at hb
      rcases List.mem_append.1 hb with hb | hb
      · exact ih (u / 10) (by omega) b hb
      · simp only [List.mem_singleton] at hb
        subst hb
        rw [yg (by omega)];omega
def Jv (l:List UInt8):Nat:=l.foldl (fun a b=>a*10+(b.toNat - 48)) 0
theorem yP:∀ (u:Nat),Jv (Lib.decDigits u)=u:=by
  intro u
  induction u using Nat.strongRecOn with
  | _ u ih=>
    rw [Lib.decDigits]
    by_cases h:u < 10
    · rw [dif_pos h]
      simp only [Jv,List.foldl_cons,List.foldl_nil,yg h];omega
    · rw [dif_neg h]
      have:=ih (u / 10) (by omega)
      unfold Jv at this ⊢
      rw [List.foldl_append,this]
      simp only [List.foldl_cons,List.foldl_nil,yg (show u % 10 < 10 by omega)];omega
theorem zgu {a b:Int} (h:Lib.itoa a=Lib.itoa b):a=b:=by
  have key:∀ (u v:Nat),45::Lib.decDigits u=Lib.decDigits v→False:=by
    intro u v h
    have:=Ju v 45 (by rw [←h];exact List.mem_cons_self)
    have e:(45:UInt8).toNat=45:=rfl
    omega
  unfold Lib.itoa at h
  by_cases ha:a < 0
  · by_cases hb:b < 0
    · rw [if_pos ha,if_pos hb] at h
      have h1:=congrArg Jv (List.cons.inj h).2
      rw [yP,yP] at h1
      omega
    · rw [if_pos ha,if_neg hb] at h
      exact (key _ _ h).elim
  · by_cases hb:b < 0
    · rw [if_neg ha,if_pos hb] at h
      exact (key _ _ h.symm).elim
    · rw [if_neg ha,if_neg hb] at h
      have h1:=congrArg Jv h
      rw [yP,yP] at h1
      omega
theorem YI (n:Int):∀ b∈Lib.itoa n,b≠32:=by
  intro b hb e
  subst e
  have e:(32:UInt8).toNat=32:=rfl
  unfold Lib.itoa at hb
  split at hb
  · rcases List.mem_cons.1 hb with h | h
    · exact absurd h (by decide)
    · have:=Ju _ _ h;omega
  · have:=Ju _ _ hb;omega
def PI {α:Type} (f:α→List UInt8):Prop:=∀ (a b:α) (xs ys:List UInt8),f a++xs=f b++ys→a=b∧xs=ys
theorem zb5:∀ {a b xs ys:List UInt8},(∀ x∈a,x≠32)→(∀ x∈b,x≠32)→a++32::xs=b++32::ys→a=b∧xs=ys
  | [],[],xs,ys,_,_,h=>⟨rfl,(List.cons.inj h).2⟩
  | [],y::b,xs,ys,_,hb,h=>absurd (List.cons.inj h).1.symm (hb y List.mem_cons_self)
  | x::a,[],xs,ys,ha,_,h=>absurd (List.cons.inj h).1 (ha x List.mem_cons_self)
  | x::a,y::b,xs,ys,ha,hb,h=>by
    obtain ⟨h1,h2⟩:=List.cons.inj h
    obtain ⟨h3,h4⟩:=zb5 (a:=a) (b:=b) (fun z hz=>ha z (List.mem_cons_of_mem _ hz)) (fun z hz=>hb z (List.mem_cons_of_mem _ hz)) h2
    exact ⟨by rw [h1,h3],h4⟩
theorem ZN:PI zC:=fun a b xs ys h=>by
  unfold zC at h
  rw [List.append_assoc,List.append_assoc] at h
  obtain ⟨h1,h2⟩:=zb5 (YI a) (YI b) h
  exact ⟨zgu h1,h2⟩
theorem VU:PI zY:=fun a b xs ys h=>by
  unfold zY at h
  obtain ⟨h1,h2⟩:=List.cons.inj h
  refine ⟨?_,h2⟩
  cases a<;>cases b<;>first | rfl | exact absurd h1 (by decide)
theorem zia:PI qR:=fun a b xs ys h=>by
  unfold qR at h
  simp only [List.append_assoc] at h
  obtain ⟨h1,h⟩:=ZN _ _ _ _ h
  obtain ⟨h2,h⟩:=ZN _ _ _ _ h
  obtain ⟨h3,h⟩:=ZN _ _ _ _ h
  obtain ⟨h4,h⟩:=ZN _ _ _ _ h
  obtain ⟨h5,h6⟩:=VU _ _ _ _ h
  refine ⟨?_,h6⟩
  clear h6 h
  cases a;cases b
  simp only at h1 h2 h3 h4 h5
  subst h1;subst h2;subst h3;subst h4;subst h5
  rfl
theorem J6 {α:Type} {f:α→List UInt8} (hf:PI f):∀ {l m:List α} {xs ys:List UInt8},l.length=m.length→l.flatMap f++xs=m.flatMap f++ys→l=m∧xs=ys
  | [],[],_,_,_,h=>⟨rfl,h⟩
  | [],_::_,_,_,hl,_=>by simp at hl
  | _::_,[],_,_,hl,_=>by simp at hl
  | a::l,b::m,xs,ys,hl,h=>by
    rw [List.flatMap_cons,List.flatMap_cons,List.append_assoc,List.append_assoc] at h
    obtain ⟨h1,h⟩:=hf _ _ _ _ h
    obtain ⟨h2,h⟩:=J6 hf (by simpa using hl) h
    exact ⟨by rw [h1,h2],h⟩
theorem zaU {c:Zab} {p q:Zah} (hp:VS c p.state) (hq:VS c q.state) (h:qp p=qp q):p=q:=by
  unfold qp at h
  simp only [List.append_assoc] at h
  obtain ⟨h1,h⟩:=VU _ _ _ _ h
  obtain ⟨h2,h⟩:=ZN _ _ _ _ h
  obtain ⟨h3,h⟩:=J6 ZN (by rw [hp.lh,hq.lh]) h
  obtain ⟨h4,h⟩:=J6 VU (by rw [hp.lu,hq.lu]) h
  have h5:=(J6 (l:=p.state.Zal) (m:=q.state.Zal) (xs:=[]) (ys:=[]) zia (by rw [hp.lm,hq.lm]) (by rw [List.append_nil,List.append_nil];exact h)).1
  clear h
  obtain ⟨⟨d,hs,us,ms⟩,o⟩:=p
  obtain ⟨⟨d',hs',us',ms'⟩,o'⟩:=q
  simp only at h1 h2 h3 h4 h5
  subst h1;subst h2;subst h3;subst h4;subst h5;rfl
theorem Qx {α:Type} {f:α→List UInt8} {b:Nat}:∀ {l:List α},(∀ a∈l,(f a).length≤b)→(l.flatMap f).length≤l.length*b
  | [],_=>by simp
  | a::l,h=>by
    have h1:=h a List.mem_cons_self
    have h2:=Qx (f:=f) (b:=b) (l:=l) fun x hx=>h x (List.mem_cons_of_mem _ hx)
    rw [List.flatMap_cons,List.length_append,List.length_cons,Nat.succ_mul];omega
theorem zeX {c:Zab} {i:Nat} {k:Zam} {m:Zaa} (kv:KV c i k) (hp:c.Zap≤12) (h:jm c.Zap k m=true):(0≤m.Zan∧m.Zan≤5)∧(0≤m.left∧m.left≤400)∧(0≤m.got∧m.got≤9)∧(-1≤m.Zav∧m.Zav≤12):=by
  have hn:=kv.need
  rcases xQ.1 h with ⟨h0,_,h1⟩ | ⟨h0,h1,h2⟩ | ⟨h0,h1,h2,h3⟩ | ⟨h0,h1⟩
  · simp only [Kq,Bool.and_eq_true,beq_iff_eq] at h1
    omega
  · have hr:jY m=true:=by simp [jY,h0]
    obtain ⟨rv,_,_⟩:=wI kv h hr
    have:=rv.left;have:=rv.got;have:=rv.Zav
    omega
  · have hr:jY m=true:=by simp [jY,h0]
    obtain ⟨rv,_,_⟩:=wI kv h hr
    have:=rv.left;have:=rv.got;have:=rv.Zav
    omega
  · simp only [zc6,Bool.and_eq_true,beq_iff_eq,decide_eq_true_eq] at h1
    omega
theorem vK {n:Int} (h0 : -1000000≤n) (h1:n≤1000000):jk n=true:=by
  simp only [jk,Bool.and_eq_true,decide_eq_true_eq];omega
theorem yZ {n:Int} (h0 : -1000000≤n) (h1:n≤1000000):(zC n).length≤22:=by
  have:=Lib.itoa_length_le n (by omega) (by omega)
  simp only [zC,List.length_append,List.length_cons,List.length_nil];omega
def txt (p:Zah):ByteArray:=⟨(qp p).toArray⟩
theorem J7 {c:Zab} {p q:Zah} (hp:VS c p.state) (hq:VS c q.state) (h:txt p=txt q):p=q:=by
  refine zaU hp hq ?_
  unfold txt at h
  have h2:=congrArg (fun b:ByteArray=>b.data.toList) h
  simpa using h2
theorem Jw {c:Zab} (hc:c.Ok) {p:Zah} (hp:VS c p.state):jK p=some (txt p):=by
  have ho:=hc.off.lt (by omega:0 < 8)
  have sm:=qt ho hp.cv
  have hpa:=sm.Zap
  have hda:=sm.Zat
  have hday:=hp.day
  have hf:=hp.few hc
  have hh:∀ h∈p.state.Zae,-1000000≤h∧h≤1000000:=fun h hh=>by have:=hp.hold h hh;omega
  have hm:∀ m∈p.state.Zal,(0≤m.Zan∧m.Zan≤5)∧(0≤m.left∧m.left≤400)∧(0≤m.got∧m.got≤9)∧(-1≤m.Zav∧m.Zav≤12):=fun m hm=>by
    obtain ⟨i,hi,rfl⟩:=List.getElem_of_mem hm
    have hk:=List.getElem?_eq_getElem (show i < c.Zag.length by have:=hp.lm;omega)
    exact zeX (ye ho hp.cv hk) (by omega) (hp.mrk i _ _ hk (List.getElem?_eq_getElem hi))
  have hlen:(qp p).length≤1000000000:=by
    have h1:=yZ (n:=p.state.day) (by omega) (by omega)
    have h2:=Qx (f:=zC) (b:=22) (l:=p.state.Zae) fun h hh'=>yZ (hh h hh').1 (hh h hh').2
    have h3:=Qx (f:=zY) (b:=1) (l:=p.state.used) fun _ _=>by simp [zY]
    have h4:=Qx (f:=qR) (b:=89) (l:=p.state.Zal) fun m hm'=>by
      have:=hm m hm'
      have a1:=yZ (n:=m.Zan) (by omega) (by omega)
      have a2:=yZ (n:=m.left) (by omega) (by omega)
      have a3:=yZ (n:=m.got) (by omega) (by omega)
      have a4:=yZ (n:=m.Zav) (by omega) (by omega)
      simp only [qR,zY,List.length_append,List.length_cons,List.length_nil];omega
    simp only [qp,List.length_append]
    have:(zY p.own).length=1:=rfl
    omega
  have hok:okP p=true:=by
    simp only [okP,Bool.and_eq_true,decide_eq_true_eq,List.all_eq_true]
    refine ⟨⟨⟨vK (by omega) (by omega),fun x hx=>vK (hh x hx).1 (hh x hx).2⟩,fun m hm' => ?_⟩,hlen⟩
    have:=hm m hm'
    exact ⟨⟨⟨vK (by omega) (by omega),vK (by omega) (by omega)⟩,vK (by omega) (by omega)⟩,vK (by omega) (by omega)⟩
  unfold jK txt
  rw [if_pos hok]
instance:BEq Zah:=⟨fun a b=>a.own == b.own&&wk a.state b.state⟩
instance:LawfulBEq Zah where
  eq_of_beq {a b} h:=by
    have h':(a.own == b.own&&wk a.state b.state)=true:=h
    simp only [Bool.and_eq_true,beq_iff_eq,wK] at h'
    obtain ⟨h1,h2⟩:=h'
    cases a;cases b;simp_all
  rfl {a}:=by
    show (a.own == a.own&&wk a.state a.state)=true
    simp [wK.2 rfl]
noncomputable instance:DecidableEq Zah:=fun a b=>if h:(a == b)=true then isTrue (eq_of_beq h) else isFalse fun e=>h (beq_iff_eq.2 e)
def ZO (q:Zah) (L:List Zah):Option Int:=if q∈L then some (L.idxOf q:Int) else none
def visit (L:List Zah) (q:Zah):Option (Int×List Zah):=if q∈L then some ((L.idxOf q:Int),L) else if L.length=1500 then none else some ((L.length:Int),L++[q])
def zaV (L:List Zah) (F:List (ByteArray×Int)) (q:Zah):List (ByteArray×Int):=if q∈L then F else zS (txt q) (L.length:Int) F
def FRel (c:Zab) (F:List (ByteArray×Int)) (L:List Zah):Prop:=∀ q:Zah,VS c q.state→zp (txt q) F=ZO q L
theorem jz {α β:Type} [DecidableEq α] (k:α) (v:β):∀ l:List (α×β),zp k (zS k v l)=some v
  | []=>by simp [zS,zp]
  | (k',v')::r=>by
    unfold zS
    split
    · simp [zp]
    · rename_i h;simp only [zp,h,if_false];exact jz k v r
theorem jZ {α β:Type} [DecidableEq α] {k k2:α} (v:β) (h:k2≠k):∀ l:List (α×β),zp k2 (zS k v l)=zp k2 l
  | []=>by simp [zS,zp,h]
  | (k',v')::r=>by
    unfold zS
    split
    · rename_i e;subst e;simp only [zp,h,if_false]
    · by_cases h2:k2=k'
      · simp only [zp,h2,if_true]
      · simp only [zp,h2,if_false];exact jZ v h r
theorem zbA {q q':Zah} {L:List Zah} (hq:q ∉ L):ZO q' (L++[q])=if q'=q then some (L.length:Int) else ZO q' L:=by
  unfold ZO
  by_cases h:q'=q
  · subst h
    rw [if_pos (by simp),if_pos rfl,List.idxOf_append,if_neg hq]
    simp
  · rw [if_neg h]
    by_cases hm:q'∈L
    · rw [if_pos (by simp [hm]),if_pos hm,List.idxOf_append,if_pos hm]
    · rw [if_neg (by simp [hm,h]),if_neg hm]
theorem FRel.visit {c:Zab} {F:List (ByteArray×Int)} {L L':List Zah} {q:Zah} {to:Int} (h:FRel c F L) (hq:VS c q.state) (hv:visit L q=some (to,L')):FRel c (zaV L F q) L':=by
  unfold Go.Proofs.YtlpmnmbebkdocaaGreatDoor.visit at hv
  unfold zaV
  by_cases hm:q∈L
  · rw [if_pos hm] at hv ⊢; cases hv;exact h
  · rw [if_neg hm] at hv ⊢
    split at hv
    · cases hv
    · cases hv
      intro q' hq'
      rw [zbA hm]
      by_cases e:q'=q
      · subst e;rw [jz,if_pos rfl]
      · rw [jZ _ (fun h2=>e (J7 hq' hq h2)),if_neg e,h q' hq']
theorem zgv {c:Zab} {F:List (ByteArray×Int)} {L:List Zah} {q:Zah} (h:FRel c F L) (hq:VS c q.state) (hl:L.length≤1500) :
    (bif ((zp (txt q) F).isSome) then some (.inl (((zp (txt q) F).getD 0),L,F)) else (bif ((L.length:Int) == 1500) then some (.inr ()) else (Option.bind (zQ (α:=Zah) 88 L [q]) fun e2=>some (.inl ((L.length:Int),e2,(zS (txt q) (L.length:Int) F)))))) =
      some (match visit L q with | some (to,L')=>(.inl (to,L',zaV L F q):(Int×(List Zah)×(List (ByteArray×Int))) ⊕ Unit) | none=>.inr ()):=by
  rw [h q hq]
  unfold ZO visit zaV
  by_cases hm:q∈L
  · simp only [hm,if_true,Option.isSome_some,cond_true,Option.getD_some]
  · simp only [hm,if_false,Option.isSome_none,ZaI]
    by_cases h2:L.length=1500
    · have:((L.length:Int) == 1500)=true:=beq_iff_eq.2 (by omega)
      simp only [h2,if_true];rfl
    · have:((L.length:Int) == 1500)=false:=beq_eq_false_iff_ne.2 (by omega)
      simp only [h2,if_false,this,ZaI]
      rw [jw (by simp;omega)];rfl
noncomputable def j6 (c:Zab) (e:Zah):List Int→List Zah×List Zar→Option (List Zah×List Zar)
  | [],s=>some s
  | m::ms,(L,K)=>match visit L (target c e m) with
    | none=>none
    | some (to,L')=>j6 c e ms (L',K++[{step:=m,to:=to}])
theorem Zn (c:Zab) (e:Zah):∀ (a b:List Int) (s:List Zah×List Zar),j6 c e (a++b) s=(j6 c e a s).bind (j6 c e b)
  | [],b,s=>rfl
  | m::a,b,(L,K)=>by
    simp only [List.cons_append,j6]
    cases visit L (target c e m) with
    | none=>rfl
    | some x=>exact Zn c e a b _
def XP:Nat→List Zar→Option Nat
  | n,[]=>some n
  | n,t::r=>if 0≤t.to∧t.to≤(n:Int) then XP (if t.to=(n:Int) then n+1 else n) r else none
def yD:Nat→Nat→List (List Zar)→Option Nat
  | i,n,[]=>some n
  | i,n,l::r=>if i < n then (XP n l).bind fun n'=>yD (i+1) n' r else none
theorem Xr (l:List Zar):∀ (M:List (List Zar)) (i n:Nat),yD i n (M++[l])=(yD i n M).bind fun n'=>if i+M.length < n' then XP n' l else none
  | [],i,n=>by
    simp only [List.nil_append,yD,ZaJ,List.length_nil,Nat.add_zero]
    split
    · cases XP n l<;>rfl
    · rfl
  | x::M,i,n=>by
    simp only [List.cons_append,yD,List.length_cons]
    split
    · cases XP n x with
      | none=>rfl
      | some n'=>
        simp only [ZaJ]
        rw [Xr l M (i+1) n',show i+1+M.length=i+(M.length+1) by omega]
    · rfl
inductive Rch (c:Zab) (zw:Int) (p0:Zah):Zah→Prop where
  | base:Rch c zw p0 p0
  | step {q:Zah} {m:Int} (h:Rch c zw p0 q) (hm:m∈zu c zw q):Rch c zw p0 (target c q m)
theorem Jx {c:Zab} (hc:c.Ok) {zw:Int} {e:Zah} {m:Int} (he:VS c e.state) (hm:m∈zu c zw e):VS c (target c e m).state:=by
  unfold target
  by_cases h2:m = -2
  · rw [if_pos h2];exact he
  · rw [if_neg h2]
    rcases jh.1 hm with h | ⟨hd,_,rfl⟩ | ⟨hd,i,hi,_,rfl⟩
    · exact absurd h.2 h2
    · exact (xX hc he (by omega) (by omega) hd).2.1
    · exact (xX hc he (by omega) (by omega) hd).2.1
structure PInv (c:Zab) (zw:Int) (p0:Zah) (L:List Zah):Prop where
  vs:∀ q∈L,VS c q.state
  nd:L.Nodup
  rch:∀ q∈L,Rch c zw p0 q
  len:L.length≤1500
theorem YJ {c:Zab} {zw:Int} {p0 q:Zah} {L L':List Zah} {to:Int} (h:PInv c zw p0 L) (hq:VS c q.state) (hr:Rch c zw p0 q) (hv:visit L q=some (to,L')) :
    PInv c zw p0 L'∧(∃ r,L'=L++r)∧0≤to∧L'[to.toNat]?=some q∧to≤(L.length:Int)∧L'.length=(if to=(L.length:Int) then L.length+1 else L.length):=by
  unfold visit at hv
  by_cases hm:q∈L
  · rw [if_pos hm] at hv;cases hv
    have hi:=List.idxOf_lt_length_iff.2 hm
    refine ⟨h,⟨[],by simp⟩,by omega,?_,by omega,by rw [if_neg (by omega)]⟩
    rw [Int.toNat_natCast,List.getElem?_eq_getElem hi,List.getElem_idxOf hi]
  · rw [if_neg hm] at hv
    split at hv
    · cases hv
    · rename_i hl
      cases hv
      have hlen:=h.len
      refine ⟨⟨fun x hx => ?_,?_,fun x hx => ?_,by simp;omega⟩,⟨[q],rfl⟩,by omega,by simp,Int.le_refl _,by simp⟩
      · rcases List.mem_append.1 hx with hx | hx
        · exact h.vs x hx
        · rw [List.mem_singleton.1 hx];exact hq
      · exact List.nodup_append.2 ⟨h.nd,by simp,fun a ha b hb=>by rw [List.mem_singleton.1 hb];exact fun e=>hm (e ▸ ha)⟩
      · rcases List.mem_append.1 hx with hx | hx
        · exact h.rch x hx
        · rw [List.mem_singleton.1 hx];exact hr
theorem zeY {L:List Zah} {q:Zah} (hv:visit L q=none):q ∉ L:=by
  unfold visit at hv
  split at hv
  · cases hv
  · assumption
theorem zda {L:List Zah} {q:Zah} (hv:visit L q=none):L.length=1500:=by
  unfold visit at hv
  split at hv
  · cases hv
  · split at hv
    · rename_i h;exact h
    · cases hv
def MvOk (c:Zab) (zw:Int) (L:List Zah) (e:Zah) (ms:List Int) (T:List Zar):Prop:=T.map (·.step)=ms∧∀ t∈T,0≤t.to∧L[t.to.toNat]?=some (target c e t.step)
theorem vL {α:Type} {L r:List α} {i:Nat} {x:α} (h:L[i]?=some x):(L++r)[i]?=some x:=by
  rw [List.getElem?_append_left (List.getElem?_eq_some_iff.1 h).1];exact h
theorem MvOk.app {c:Zab} {zw:Int} {L:List Zah} {e:Zah} {ms:List Int} {T:List Zar} (h:MvOk c zw L e ms T) (r:List Zah):MvOk c zw (L++r) e ms T:=
  ⟨h.1,fun t ht=>⟨(h.2 t ht).1,vL (h.2 t ht).2⟩⟩
theorem XQ {c:Zab} (hc:c.Ok) {zw:Int} {p0 e:Zah} (he:VS c e.state) (hr:Rch c zw p0 e):∀ (ms:List Int) (L L':List Zah) (K K':List Zar),(∀ m∈ms,m∈zu c zw e)→PInv c zw p0 L→j6 c e ms (L,K)=some (L',K') →
    PInv c zw p0 L'∧(∃ r,L'=L++r)∧∃ T,K'=K++T∧MvOk c zw L' e ms T∧XP L.length T=some L'.length
  | [],L,L',K,K',_,h,hp=>by
    cases hp
    exact ⟨h,⟨[],by simp⟩,[],by simp,⟨rfl,fun t ht=>by cases ht⟩,rfl⟩
  | m::ms,L,L',K,K',hms,h,hp=>by
    simp only [j6] at hp
    have hm:=hms m List.mem_cons_self
    cases hv:visit L (target c e m) with
    | none=>rw [hv] at hp;cases hp
    | some x=>
      obtain ⟨to,L1⟩:=x
      rw [hv] at hp
      obtain ⟨h1,⟨r1,e1⟩,t0,tq,tl,tn⟩:=YJ h (Jx hc he hm) (.step hr hm) hv
      obtain ⟨h2,⟨r2,e2⟩,T,eT,hT,hch⟩:=XQ hc he hr ms L1 L' _ K' (fun x hx=>hms x (List.mem_cons_of_mem _ hx)) h1 hp
      refine ⟨h2,⟨r1++r2,by rw [e2,e1,List.append_assoc]⟩,{step:=m,to:=to}::T,by rw [eT];simp,⟨by simp [hT.1],fun t ht => ?_⟩,?_⟩
      · rcases List.mem_cons.1 ht with rfl | ht
        · exact ⟨t0,by rw [e2];exact vL tq⟩
        · exact hT.2 t ht
      · simp only [XP]
        rw [if_pos ⟨t0,tl⟩,←tn];exact hch
theorem YK {c:Zab} (hc:c.Ok) {zw:Int} {p0 e:Zah} (he:VS c e.state) (hr:Rch c zw p0 e):∀ (ms:List Int) (L:List Zah) (K:List Zar),(∀ m∈ms,m∈zu c zw e)→PInv c zw p0 L→j6 c e ms (L,K)=none →
    ∃ L1,PInv c zw p0 L1∧L1.length=1500∧∃ q,Rch c zw p0 q∧q ∉ L1
  | [],L,K,_,h,hp=>by cases hp
  | m::ms,L,K,hms,h,hp=>by
    simp only [j6] at hp
    have hm:=hms m List.mem_cons_self
    cases hv:visit L (target c e m) with
    | none=>exact ⟨L,h,zda hv,_,.step hr hm,zeY hv⟩
    | some x=>
      obtain ⟨to,L1⟩:=x
      rw [hv] at hp
      obtain ⟨h1,_⟩:=YJ h (Jx hc he hm) (.step hr hm) hv
      exact YK hc he hr ms L1 _ (fun x hx=>hms x (List.mem_cons_of_mem _ hx)) h1 hp
abbrev XT:Type:=(List Zah)×(List (ByteArray×Int))×(List Zar)
def GotP (c:Zab) (zw:Int) (p0 e:Zah) (L0:List Zah) (ms:List Int) (x:XT):Prop:=j6 c e ms (L0,[])=some (x.1,x.2.2)∧FRel c x.2.1 x.1
theorem YL {c:Zab} (hc:c.Ok) {zw:Int} {e:Zah} (he:VS c e.state):(zu c zw e).length≤62:=by
  have sm:=qt (hc.off.lt (by omega)) he.cv
  have sa:=sm.Zai
  have:=YH c zw e c.Zai.length
  unfold zu
  cases e.own<;>cases decide (c.Zat≤e.state.day)<;>simp<;>omega
theorem GotP.facts {c:Zab} (hc:c.Ok) {zw:Int} {p0 e:Zah} {L0:List Zah} {ms:List Int} {x:XT} (he:VS c e.state) (hr:Rch c zw p0 e) (hP:PInv c zw p0 L0) (hms:∀ m∈ms,m∈zu c zw e) (h:GotP c zw p0 e L0 ms x) :
    PInv c zw p0 x.1∧x.2.2.length=ms.length:=by
  obtain ⟨h1,_,T,eT,hT,_⟩:=XQ hc he hr ms L0 x.1 [] x.2.2 hms hP h.1
  refine ⟨h1,?_⟩
  rw [eT,List.nil_append,←hT.1,List.length_map]
theorem XR {c:Zab} (hc:c.Ok) {zw:Int} {p0 e:Zah} {L0:List Zah} {ms:List Int} {m:Int} {L:List Zah} {F:List (ByteArray×Int)} {K:List Zar} {q:Zah} (he:VS c e.state) (hr:Rch c zw p0 e) (hP:PInv c zw p0 L0) (hms:∀ x∈ms,x∈zu c zw e) (hm:m∈zu c zw e) (hlen:ms.length≤100)
    (hq:q=target c e m) (h:GotP c zw p0 e L0 ms (L,F,K)) {β:Type} {k:Int×(List Zah)×(List (ByteArray×Int))→Option β} {z:Option β} {Q:β→Prop}
    (hk:∀ (to:Int) (L':List Zah) (F':List (ByteArray×Int)),GotP c zw p0 e L0 (ms++[m]) (L',F',K++[{step:=m,to:=to}])→zQ (α:=Zar) 16 K [({step:=m,to:=to}:Zar)]=some (K++[{step:=m,to:=to}])→Ret (k (to,L',F')) Q)
    (hz:j6 c e (ms++[m]) (L0,[])=none→Ret z Q) :
    Ret (Option.bind (jK q) fun r=>(Option.bind (α:=(Int×(List Zah)×(List (ByteArray×Int))) ⊕ Unit) (bif ((zp r F).isSome) then some (.inl (((zp r F).getD 0),L,F)) else (bif ((L.length:Int) == 1500) then some (.inr ()) else (Option.bind (zQ (α:=Zah) 88 L [q]) fun e2=>some (.inl ((L.length:Int),e2,(zS r (L.length:Int) F)))))) (Sum.elim k (fun _=>z)))) Q:=by
  obtain ⟨hPI,hKl⟩:=h.facts hc he hr hP hms
  have hvq:VS c q.state:=by rw [hq];exact Jx hc he hm
  refine Ret.bindE (Jw hc hvq) ?_
  refine Ret.bindE (zgv h.2 hvq hPI.len) ?_
  have happ:j6 c e (ms++[m]) (L0,[])=(match visit L q with | none=>none | some (to,L')=>some (L',K++[{step:=m,to:=to}])):=by
    rw [Zn,h.1]
    simp only [ZaJ,j6,hq]
    all_goals (cases visit L (target c e m)<;>rfl)
  cases hv:visit L q with
  | none=>
    rw [hv] at happ
    exact hz happ
  | some x=>
    obtain ⟨to,L'⟩:=x
    rw [hv] at happ
    refine hk to L' (zaV L F q) ⟨happ,FRel.visit h.2 hvq hv⟩ (jw ?_)
    simp only at hKl
    rw [hKl];simp;omega
theorem Vb (c:Zab) (zw:Int) (p:Zah) {m n:Nat} (h:m≤n):∃ r,qS c zw p n=qS c zw p m++r:=by
  induction h with
  | refl=>exact ⟨[],by simp⟩
  | step _ ih=>
    obtain ⟨r,hr⟩:=ih
    rw [yO,hr]
    exact ⟨_,List.append_assoc _ _ _⟩
theorem yI {c:Zab} {e:Zah} {a b:List Int} {s:List Zah×List Zar} (h:j6 c e a s=none):j6 c e (a++b) s=none:=by rw [Zn,h];rfl
structure FromOk (c:Zab) (zw:Int) (p:Zah) (L:List Zah) (M:List (List Zar)):Prop where
  inv:PInv c zw p L
  first:L[0]?=some p
  len:M.length=L.length
  mv:∀ (j:Nat) (T:List Zar) (e:Zah),M[j]?=some T→L[j]?=some e→MvOk c zw L e (zu c zw e) T
  chk:yD 0 1 M=some L.length
def zgw (c:Zab) (zw:Int) (p:Zah):Prop:=∃ L1,PInv c zw p L1∧L1.length=1500∧∃ q,Rch c zw p q∧q ∉ L1
structure FInv (c:Zab) (zw:Int) (p:Zah) (s:Int×(List Zah)×(List (List Zar))×(List (ByteArray×Int))):Prop where
  i:s.1=(s.2.2.1.length:Int)
  le:s.2.2.1.length≤s.2.1.length
  inv:PInv c zw p s.2.1
  rel:FRel c s.2.2.2 s.2.1
  first:s.2.1[0]?=some p
  mv:∀ (j:Nat) (T:List Zar) (e:Zah),s.2.2.1[j]?=some T→s.2.1[j]?=some e→MvOk c zw s.2.1 e (zu c zw e) T
  chk:yD 0 1 s.2.2.1=some s.2.1.length
theorem zgx {c:Zab} (hc:c.Ok) {zw:Int} {p:Zah} (hpl:Qw c zw p.state=true) :
    Ret (wa c zw p) (fun r=>(r.2=0∧r.1.zw=zw∧FromOk c zw p r.1.Zao r.1.moves)∨(r.2=3∧zgw c zw p)):=by
  obtain ⟨hp0,hp1,hv⟩:=YG.1 hpl
  have sm:=qt (hc.off.lt (by omega)) hv.cv
  have sa:=sm.Zai
  unfold wa
  refine Ret.bindE (by rw [W9 hc,hpl]) ?_
  refine Ret.ite (fun _ => ?_) (fun h=>by cases h)
  refine Ret.bindE (zaS hc hv) ?_
  refine Ret.bindE (Jw hc hv) ?_
  refine Ret.bind (P:=fun o:((List Zah)×(List (List Zar))) ⊕ Unit=>(∃ L M,o=.inl (L,M)∧FromOk c zw p L M)∨(o=.inr ()∧zgw c zw p)) ?_ ?_
  · refine Ret.bind (P:=fun o:((List Zah)×(List (List Zar))) ⊕ Unit=>(∃ L M,o=.inl (L,M)∧FromOk c zw p L M)∨(o=.inr ()∧zgw c zw p)) (Ret.iter (FInv c zw p) (fun s=>(1501 - s.1).toNat) ?_ ?_) ?_
    · refine ⟨rfl,by simp,⟨fun q hq => ?_,by simp,fun q hq => ?_,by simp⟩,?_,rfl,fun j T e h=>by simp at h,rfl⟩
      · rw [List.mem_singleton.1 hq];exact hv
      · rw [List.mem_singleton.1 hq];exact .base
      · intro q hq
        simp only [zS,zp,ZO,List.mem_singleton]
        by_cases e:q={state:=p.state,own:=p.own}
        · subst e
          simp [List.idxOf_cons,txt]
        · have e2:txt q≠txt p:=fun h=>e (J7 hq hv h)
          rw [if_neg e2,if_neg e]
    · rintro ⟨i,L,M,F⟩ ⟨hi,hle,hinv,hrel,hfst,hmv,hchk⟩
      simp only at hi hle hinv hrel hfst hmv hchk ⊢
      subst hi
      have hlen:=hinv.len
      refine Ret.ite (fun hlt => ?_) (fun hge => ?_)
      · have hlt:=of_decide_eq_true hlt
        have hML:M.length < L.length:=by omega
        have heq:=List.getElem?_eq_getElem hML
        have hme:=List.getElem_mem hML
        have he:=hinv.vs _ hme
        have hr:=hinv.rch _ hme
        generalize L[M.length]=e at heq he hr
        have hmlen:=YL hc (zw:=zw) he
        refine Ret.bind (P:=fun o:XT ⊕ Unit=>(∃ x,o=.inl x∧GotP c zw p e L (zu c zw e) x)∨(o=.inr ()∧j6 c e (zu c zw e) (L,[])=none)) ?_ ?_
        · refine Ret.bindE (zj heq) ?_
          refine Ret.bindE (x:=WQ c zw e) (v:=()) rfl ?_
          refine Ret.bind (P:=fun o:XT ⊕ (Unit ⊕ XT)=>(∃ x,o=.inl x∧e.state.day < c.Zat∧GotP c zw p e L (bif e.own then [-2] else []) x)∨(o=.inr (.inl ())∧j6 c e (bif e.own then [-2] else []) (L,[])=none)∨(∃ x,o=.inr (.inr x)∧c.Zat≤e.state.day∧GotP c zw p e L (bif e.own then [-2] else []) x)) ?_ ?_
          · have hbase:GotP c zw p e L [] (L,F,[]):=⟨rfl,hrel⟩
            cases ho:e.own with
            | false=>
              simp only [ZaI]
              refine Ret.ite (fun hd=>Ret.some (.inr (.inr ⟨_,rfl,of_decide_eq_true hd,hbase⟩))) (fun hd=>Ret.some (.inl ⟨_,rfl,by have:=of_decide_eq_false hd;omega,hbase⟩))
            | true=>
              simp only [cond_true]
              refine Ret.bindE (zaS hc he) ?_
              have hm2:(-2:Int)∈zu c zw e:=jh.2 (.inl ⟨ho,rfl⟩)
              refine XR hc he hr hinv (fun x hx=>by cases hx) hm2 (by simp) (by unfold target;rw [if_pos rfl]) hbase (fun to L' F' hg ha => ?_) (fun hz=>Ret.some (.inr (.inl ⟨rfl,hz⟩)))
              refine Ret.bindE ha ?_
              refine Ret.ite (fun hd=>Ret.some (.inr (.inr ⟨_,rfl,of_decide_eq_true hd,hg⟩))) (fun hd=>Ret.some (.inl ⟨_,rfl,by have:=of_decide_eq_false hd;omega,hg⟩))
          · rintro o (⟨⟨L1,F1,K1⟩,rfl,hd,hg⟩ | ⟨rfl,hn⟩ | ⟨⟨L1,F1,K1⟩,rfl,hd,hg⟩)
            · -- there is time left: the tick
              have hmv0:zu c zw e=(bif e.own then [-2] else [-1])++qS c zw e c.Zai.length:=by
                unfold zu
                rw [decide_eq_false (show ¬ c.Zat≤e.state.day by omega)]
                cases e.own<;>rfl
              refine Ret.bind (P:=fun o:XT ⊕ Unit=>(∃ x,o=.inl x∧GotP c zw p e L (bif e.own then [-2] else [-1]) x)∨(o=.inr ()∧j6 c e (bif e.own then [-2] else [-1]) (L,[])=none)) ?_ ?_
              · cases ho:e.own with
                | true=>rw [ho] at hg;exact Ret.some (.inl ⟨_,rfl,hg⟩)
                | false=>
                  rw [ho] at hg
                  simp only [ZaI] at hg ⊢
                  obtain ⟨est,_⟩:=xX (a := -1) hc he (by omega) (by omega) hd
                  refine Ret.bindE est ?_
                  have hm1:(-1:Int)∈zu c zw e:=jh.2 (.inr (.inl ⟨hd,ho,rfl⟩))
                  refine XR hc he hr hinv (fun x hx=>by cases hx) hm1 (by simp) (by unfold target;rw [if_neg (by omega)]) hg (fun to L' F' hg ha => ?_) (fun hz=>Ret.some (.inr ⟨rfl,hz⟩))
                  refine Ret.bindE ha ?_
                  exact Ret.some (.inl ⟨_,rfl,hg⟩)
              · rintro o (⟨⟨L2,F2,K2⟩,rfl,hg2⟩ | ⟨rfl,hn⟩)
                · -- the Zai
                  refine Ret.bind (P:=fun o:XT ⊕ XT=>(∃ x,o=.inl x∧GotP c zw p e L (zu c zw e) x)∨(∃ x,o=.inr x∧j6 c e (zu c zw e) (L,[])=none)) ?_ ?_
                  · have hsub:∀ i,i≤c.Zai.length→∀ x∈(bif e.own then [-2] else [-1])++qS c zw e i,x∈zu c zw e:=by
                      intro i hi x hx
                      rw [hmv0]
                      obtain ⟨r,hr'⟩:=Vb c zw e hi
                      rw [hr']
                      rcases List.mem_append.1 hx with h | h
                      · exact List.mem_append.2 (.inl h)
                      · exact List.mem_append.2 (.inr (List.mem_append.2 (.inl h)))
                    refine Ret.forL (n:=c.Zai.length) (fun i s=>GotP c zw p e L ((bif e.own then [-2] else [-1])++qS c zw e i) s) (by omega) ?_ ?_ (fun s hs=>.inl ⟨s,rfl,by rw [hmv0];exact hs⟩)
                    · show GotP c zw p e L ((bif e.own then [-2] else [-1])++qS c zw e 0) (L2,F2,K2)
                      have:qS c zw e 0=[]:=rfl
                      rw [this,List.append_nil];exact hg2
                    · rintro i ⟨L3,F3,K3⟩ hi hg3
                      simp only
                      have hx:=List.getElem?_eq_getElem hi
                      have av:=Kr hv.cv hx
                      have hmvb:mvB c zw e i=(((jT e.state.Zae c.Zai[i] == zw) == e.own) && !wk (z8 c e.state i) e.state):=by simp only [mvB,hx]
                      have hlenA:=YH c zw e i
                      refine Ret.bind (P:=fun o:XT ⊕ Unit=>(∃ x,o=.inl x∧GotP c zw p e L ((bif e.own then [-2] else [-1])++qS c zw e (i+1)) x)∨(o=.inr ()∧j6 c e ((bif e.own then [-2] else [-1])++qS c zw e (i+1)) (L,[])=none)) ?_ ?_
                      · refine Ret.bindE (zj hx) ?_
                        refine Ret.bindE (zgs he av) ?_
                        refine Ret.ite (fun hq => ?_) (fun hq => ?_)
                        · obtain ⟨est,hvs,_⟩:=xX (a:=(i:Int)) hc he (by omega) (by omega) hd
                          have hfew:=hvs.few hc
                          refine Ret.bindE est ?_
                          refine Ret.bindE (zh9 (z8 c e.state i) e.state (by omega) (by omega) (by omega)) ?_
                          refine Ret.ite (fun hs=>Ret.some (.inl ⟨_,rfl,?_⟩)) (fun hs => ?_)
                          · rw [yO,hmvb,hq,hs]
                            simpa using hg3
                          · have hb:mvB c zw e i=true:=by rw [hmvb,hq,hs];rfl
                            have hmi:(i:Int)∈zu c zw e:=jh.2 (.inr (.inr ⟨hd,i,hi,hb,rfl⟩))
                            have hact:qS c zw e (i+1)=qS c zw e i++[(i:Int)]:=by rw [yO,hb];rfl
                            rw [hact,←List.append_assoc]
                            refine XR hc he hr hinv (hsub i (by omega)) hmi (by cases e.own<;>simp<;>omega) (by unfold target;rw [if_neg (by omega)]) hg3 (fun to L' F' hg ha => ?_) (fun hz=>Ret.some (.inr ⟨rfl,hz⟩))
                            refine Ret.bindE ha ?_
                            exact Ret.some (.inl ⟨_,rfl,hg⟩)
                        · refine Ret.some (.inl ⟨_,rfl,?_⟩)
                          rw [yO,hmvb,hq]
                          simpa using hg3
                      · rintro o (⟨x,rfl,hgx⟩ | ⟨rfl,hn⟩)
                        · exact Ret.some hgx
                        · refine Ret.some (.inr ⟨_,rfl,?_⟩)
                          rw [hmv0]
                          obtain ⟨r,hr'⟩:=Vb c zw e (show i+1≤c.Zai.length by omega)
                          rw [hr',←List.append_assoc]
                          exact yI hn
                  · rintro o (⟨x,rfl,hgx⟩ | ⟨x,rfl,hn⟩)
                    · exact Ret.some (.inl ⟨_,rfl,hgx⟩)
                    · exact Ret.some (.inr ⟨rfl,hn⟩)
                · refine Ret.some (.inr ⟨rfl,?_⟩)
                  rw [hmv0];exact yI hn
            · refine Ret.some (.inr ⟨rfl,?_⟩)
              unfold zu;exact yI hn
            · refine Ret.some (.inl ⟨_,rfl,?_⟩)
              have:zu c zw e=(bif e.own then [-2] else []):=by
                unfold zu
                rw [decide_eq_true hd]
                simp
              rw [this];exact hg
        · rintro o (⟨⟨L',F',K'⟩,rfl,hg⟩ | ⟨rfl,hn⟩)
          · obtain ⟨h1,⟨r1,e1⟩,T,eT,hT,hch⟩:=XQ hc he hr (zu c zw e) L L' [] K' (fun m hm=>hm) hinv hg.1
            simp only [List.nil_append] at eT
            subst eT
            simp only [Sum.elim_inl]
            refine Ret.bindE (jw (by simp;omega)) ?_
            rw [zW (by omega) (by omega)]
            refine Ret.some ⟨⟨by simp,?_,h1,hg.2,by show L'[0]?=some p;rw [e1];exact vL hfst,?_,?_⟩,?_⟩
            · show (M++[K']).length≤L'.length
              rw [e1];simp;omega
            · show ∀ (j:Nat) (T:List Zar) (e:Zah),(M++[K'])[j]?=some T→L'[j]?=some e→MvOk c zw L' e (zu c zw e) T
              intro j T e' hj he'
              by_cases hjm:j < M.length
              · rw [List.getElem?_append_left hjm] at hj
                have hjL:L[j]?=some e':=by
                  rw [e1,List.getElem?_append_left (by omega)] at he';exact he'
                rw [e1]
                exact (hmv j T e' hj hjL).app r1
              · have hj2:j=M.length:=by
                  have:=(List.getElem?_eq_some_iff.1 hj).1
                  simp at this;omega
                subst hj2
                rw [List.getElem?_append_right (Nat.le_refl _)] at hj
                simp at hj
                subst hj
                have:L'[M.length]?=some e:=by rw [e1];exact vL heq
                rw [this] at he';cases he'
                exact hT
            · show yD 0 1 (M++[K'])=some L'.length
              rw [Xr,hchk]
              simp only [ZaJ,Nat.zero_add]
              rw [if_pos hML];exact hch
            · show (1501 - ((M.length:Int)+1)).toNat < (1501 - (M.length:Int)).toNat
              omega
          · obtain ⟨L1,h1,h2⟩:=YK hc he hr (zu c zw e) L [] (fun m hm=>hm) hinv hn
            exact Ret.some (.inr ⟨rfl,L1,h1,h2⟩)
      · have hge:=of_decide_eq_false hge
        exact Ret.some (.inl ⟨L,M,rfl,hinv,hfst,by omega,hmv,hchk⟩)
    · rintro o (⟨L,M,rfl,h⟩ | ⟨rfl,h⟩)
      · exact Ret.some (.inl ⟨L,M,rfl,h⟩)
      · exact Ret.some (.inr ⟨rfl,h⟩)
  · rintro o (⟨L,M,rfl,h⟩ | ⟨rfl,h⟩)
    · exact Ret.some (.inl ⟨rfl,rfl,h⟩)
    · exact Ret.some (.inr ⟨rfl,h⟩)
def Qy (k:Zam) (m:Zaa):Zaa:=bif k.Zaz then {Zan:=5,left:=0,got:=0,Zav := -1,ZaA:=false} else {Zan:=0,left:=0,got:=0,Zav := -1,ZaA:=false}
def Qz:Zaa:={Zan:=0,left:=0,got:=0,Zav:=0,ZaA:=false}
theorem YM {c:Zab} (hc:c.Ok) (h:(qg c).1≠0):qz c=some (noS,1):=by
  unfold qz
  rw [hc.valid]
  have:((qg c).1 == 0)=false:=beq_eq_false_iff_ne.2 h
  simp only [ZaJ,this,ZaI];rfl
def zjR (c:Zab):List Zaa:=(List.replicate c.Zag.length Qz).mapIdx (atK c Qy)
theorem zdb {c:Zab} (hc:c.Ok) (hv:(qg c).1=0):Ret (qz c) (fun r=>r.2=0∧VS c r.1∧r.1.day=0∧r.1.Zae=c.Zae∧r.1.used=List.replicate c.Zai.length false∧StartP c c.Zae (zjR c) r.1.Zal):=by
  have ho:=hc.off.lt (by omega:0 < 8)
  have sm:=qt ho hv
  have s1:=sm.Zae
  have s2:=sm.Zai
  have s3:=sm.Zag
  have s4:=sm.Zap
  have s5:=sm.Zat
  unfold qz
  refine Ret.bindE hc.valid ?_
  refine Ret.ite (fun _ => ?_) (fun h=>absurd hv (beq_eq_false_iff_ne.1 h))
  refine Ret.bindE (Zc (by omega)) ?_
  refine Ret.bindE (Jt (show c.Zai.length < 1000 by omega) (by omega)) ?_
  refine Ret.bindE (Jt (show c.Zag.length < 1000 by omega) (by omega)) ?_
  have hok0:MOk c ((List.replicate c.Zag.length Qz).mapIdx (atK c Qy)):=by
    refine ⟨by simp,fun i k m hk hm => ?_⟩
    rw [List.getElem?_mapIdx] at hm
    obtain ⟨m0,_,rfl⟩:=Option.map_eq_some_iff.1 hm
    simp only [atK,hk,Qy]
    have e4:decide (-1 < c.Zap)=true:=decide_eq_true (by omega)
    cases hw:k.Zaz with
    | true=>
      show jm c.Zap k {Zan:=5,left:=0,got:=0,Zav := -1,ZaA:=false}=true
      refine xQ.2 (.inr (.inr (.inr ⟨.inr (.inr rfl),?_⟩)))
      show ((0:Int) == 0&&(decide ((0:Int)≤0)&&(decide ((0:Int)≤9)&&(decide ((-1:Int) ≤ -1)&&(decide (-1 < c.Zap) && !false)))))=true
      rw [e4];rfl
    | false=>exact xQ.2 (.inl ⟨rfl,hw,rfl⟩)
  refine Ret.bind (P:=fun o:List Zaa ⊕ Unit=>o=.inl ((List.replicate c.Zag.length Qz).mapIdx (atK c Qy))) ?_ ?_
  · refine Ret.of ?_
    have hl:(c.Zag.length:Int)=((List.replicate c.Zag.length Qz).length:Int):=by simp
    show forR (c.Zag.length:Int) _ (List.replicate c.Zag.length Qz)=_
    conv=>lhs;arg 1;rw [hl]
    refine wc (List.replicate c.Zag.length Qz) (atK c Qy) (by simp;omega) ?_
    intro i m s h1 h2 h3
    have hi:i < c.Zag.length:=by simpa using (List.getElem?_eq_some_iff.1 h1).1
    have hk:=List.getElem?_eq_getElem hi
    simp only [zj hk,ZaJ,zO hi,h3,wJ h3,atK,hk,Qy,List.set_set]
    cases c.Zag[i].Zaz<;>rfl
  · rintro o rfl
    simp only [Sum.elim_inl]
    have hs:=Js c 0 c.Zae (List.replicate c.Zai.length false) _ ho hv rfl (zb3 hv) hok0
    unfold vg at hs
    rw [List.length_replicate,show ((List.replicate c.Zag.length Qz).mapIdx (atK c Qy)).length=c.Zag.length by simp] at hs
    refine Ret.bind hs fun r hr => ?_
    refine Ret.bindE (xp (by simp)) ?_
    refine Ret.bindE (xp hr.ok.1.symm) ?_
    refine Ret.some ⟨rfl,⟨hv,⟨by show (0:Int)≤0;omega,by show (0:Int)≤c.Zat;omega⟩,rfl,by simp,hr.ok.1,zb3 hv,?_,hr.ok.2,hr.nr⟩,rfl,rfl,rfl,hr⟩
    intro i a _ hu
    simp only [List.getElem?_replicate] at hu
    split at hu
    · cases hu
    · cases hu
theorem YN {c:Zab} (hc:c.Ok) (hv:(qg c).1=0):Ret (qz c) (fun r=>r.2=0∧VS c r.1):=Ret.mono (zdb hc hv) fun _ h=>⟨h.1,h.2.1⟩
def Vc:ZaC:={zw:=0,Zao:=[],moves:=[]}
theorem zgy {c:Zab} (hc:c.Ok) {zw:Int} {p:Zah} (h:Qw c zw p.state=false):wa c zw p=some (Vc,1):=by
  unfold wa
  rw [W9 hc,h];rfl
def zjS (c:Zab) (zw:Int) (r:ZaC×Int):Prop:=
  r.2≠0∨(r.2=0∧∃ s0,qz c=some (s0,0)∧VS c s0∧0≤zw∧zw < c.Zap∧r.1.zw=zw∧FromOk c zw {state:=s0,own:=true} r.1.Zao r.1.moves)
theorem zeZ {c:Zab} (hc:c.Ok) (zw:Int):Ret (qX c zw) (zjS c zw):=by
  unfold qX
  by_cases hv:(qg c).1=0
  · obtain ⟨⟨s0,e0⟩,hst,h0,hvs⟩:=YN hc hv
    simp only at h0 hvs
    subst h0
    refine Ret.bindE hst ?_
    refine Ret.ite (fun _ => ?_) (fun h=>by cases h)
    cases hpl:Qw c zw s0 with
    | false=>
      refine Ret.bindE (zgy hc (p:={state:=s0,own:=true}) hpl) ?_
      exact Ret.some (.inl (by simp))
    | true=>
      obtain ⟨h1,h2,_⟩:=YG.1 hpl
      refine Ret.bind (zgx hc (p:={state:=s0,own:=true}) hpl) ?_
      rintro ⟨a,e⟩ (⟨h3,h4,h5⟩ | ⟨h3,_⟩)
      · exact Ret.some (.inr ⟨h3,s0,hst,hvs,h1,h2,h4,h5⟩)
      · simp only at h3
        exact Ret.some (.inl (by show e≠0;omega))
  · refine Ret.bindE (YM hc hv) ?_
    exact Ret.some (.inl (by simp))
theorem QA {α:Type} [BEq α] [LawfulBEq α]:∀ {L1 L2:List α},L1.Nodup→(∀ x∈L1,x∈L2)→L1.length≤L2.length
  | [],L2,_,_=>by simp
  | a::l,L2,h,hs=>by
    obtain ⟨ha,hl⟩:=List.nodup_cons.1 h
    have hm:=hs a List.mem_cons_self
    have ih:=QA (L1:=l) (L2:=L2.erase a) hl fun x hx=>(List.mem_erase_of_ne (by rintro rfl;exact ha hx)).2 (hs x (List.mem_cons_of_mem _ hx))
    rw [List.length_erase_of_mem hm] at ih
    have:0 < L2.length:=List.length_pos_of_mem hm
    simp only [List.length_cons];omega
theorem FromOk.closed {c:Zab} {zw:Int} {p:Zah} {L:List Zah} {M:List (List Zar)} (F:FromOk c zw p L M) {q:Zah} (hq:q∈L) {m:Int} (hm:m∈zu c zw q):target c q m∈L:=by
  obtain ⟨j,hj,e⟩:=List.getElem_of_mem hq
  have hjM:j < M.length:=by rw [F.len];exact hj
  have h:=F.mv j M[j] q (List.getElem?_eq_getElem hjM) (by rw [List.getElem?_eq_getElem hj,e])
  rw [←h.1] at hm
  obtain ⟨t,ht,rfl⟩:=List.mem_map.1 hm
  exact List.mem_of_getElem? (h.2 t ht).2
theorem FromOk.rch {c:Zab} {zw:Int} {p:Zah} {L:List Zah} {M:List (List Zar)} (F:FromOk c zw p L M) {q x:Zah} (hq:q∈L) (h:Rch c zw q x):x∈L:=by
  induction h with
  | base=>exact hq
  | step _ hm ih=>exact F.closed ih hm
instance:BEq Zad:=⟨wk⟩
instance:LawfulBEq Zad where
  eq_of_beq {a b} h:=wK.1 h
  rfl {a}:=wK.2 rfl
inductive SR (c:Zab) (s0:Zad):Zad→Prop where
  | base:SR c s0 s0
  | step {s:Zad} {a:Int} (h:SR c s0 s) (h1 : -1≤a) (h2:a < c.Zai.length) (hd:s.day < c.Zat):SR c s0 (z8 c s a)
def txS (s:Zad):ByteArray:=txt {state:=s,own:=false}
def zaW (c:Zab) (F:List (ByteArray×Bool)) (L:List Zad):Prop:=∀ q:Zad,VS c q→((zp (txS q) F).getD false=true↔q∈L)
structure SInv (c:Zab) (s0:Zad) (L:List Zad):Prop where
  vs:∀ q∈L,VS c q
  nd:L.Nodup
  rch:∀ q∈L,SR c s0 q
  len:L.length≤1500
def Done (c:Zab) (L:List Zad) (s:Zad) (n:Int):Prop:=s.day < c.Zat→∀ a:Int,-1≤a→a < n→z8 c s a∈L
theorem Done.app {c:Zab} {L:List Zad} {s:Zad} {n:Int} (h:Done c L s n) (r:List Zad):Done c (L++r) s n:=fun hd a h1 h2=>List.mem_append.2 (.inl (h hd a h1 h2))
def Bfs (c:Zab) (L:List Zad):Prop:=∀ (m:Nat) (q:Zad),0 < m→L[m]?=some q→∃ (n:Nat) (s:Zad) (a:Int),n < m∧L[n]?=some s∧s.day < c.Zat ∧ -1≤a∧a < (c.Zai.length:Int)∧z8 c s a=q ∧
  ∀ (n':Nat) (s':Zad) (a':Int),n' < n→L[n']?=some s'→s'.day < c.Zat → -1≤a'→a' < (c.Zai.length:Int)→∃ m',m' < m∧L[m']?=some (z8 c s' a')
theorem Bfs.snoc {c:Zab} {L:List Zad} {q e:Zad} {i:Nat} {a:Int} (h:Bfs c L) (hi:L[i]?=some e) (hd:e.day < c.Zat) (h1 : -1≤a) (h2:a < (c.Zai.length:Int)) (hq:z8 c e a=q)
    (hdone:∀ (j:Nat) (s:Zad),j < i→L[j]?=some s→Done c L s c.Zai.length):Bfs c (L++[q]):=by
  intro m x hm hx
  have hil:=(List.getElem?_eq_some_iff.1 hi).1
  rcases Nat.lt_or_ge m L.length with hlt | hge
  · rw [List.getElem?_append_left hlt] at hx
    obtain ⟨n,s,b,h3,h4,h5,h6,h7,h8,h9⟩:=h m x hm hx
    refine ⟨n,s,b,h3,by rw [List.getElem?_append_left (by omega)];exact h4,h5,h6,h7,h8,fun n' s' a' g1 g2 g3 g4 g5 => ?_⟩
    rw [List.getElem?_append_left (by omega)] at g2
    obtain ⟨m',k1,k2⟩:=h9 n' s' a' g1 g2 g3 g4 g5
    exact ⟨m',k1,by rw [List.getElem?_append_left (by omega)];exact k2⟩
  · rw [List.getElem?_append_right hge] at hx
    have hm2:m=L.length:=by
      have:=(List.getElem?_eq_some_iff.1 hx).1
      simp at this;omega
    subst hm2
    simp at hx
    subst hx
    refine ⟨i,e,a,hil,by rw [List.getElem?_append_left hil];exact hi,hd,h1,h2,hq,fun n' s' a' g1 g2 g3 g4 g5 => ?_⟩
    rw [List.getElem?_append_left (by omega)] at g2
    have:=hdone n' s' g1 g2 g3 a' g4 g5
    obtain ⟨m',k1,k2⟩:=List.getElem_of_mem this
    exact ⟨m',k1,by rw [List.getElem?_append_left k1,List.getElem?_eq_getElem k1,k2]⟩
structure ReachOk (c:Zab) (s0:Zad) (L:List Zad):Prop where
  inv:SInv c s0 L
  first:s0∈L
  at0:L[0]?=some s0
  bfs:Bfs c L
  done:∀ s∈L,Done c L s c.Zai.length
structure RInv (c:Zab) (s0:Zad) (L:List Zad) (i:Int) (F:List (ByteArray×Bool)):Prop where
  inv:SInv c s0 L
  rel:zaW c F L
  first:s0∈L
  at0:L[0]?=some s0
  bfs:Bfs c L
  le:0≤i∧i≤(L.length:Int)
  done:∀ (j:Nat) (s:Zad),(j:Int) < i→L[j]?=some s→Done c L s c.Zai.length
theorem ze0 {c:Zab} (hc:c.Ok) {s0:Zad} (hst:qz c=some (s0,0)) (hv:VS c s0) :
    Ret (xy c) (fun r=>(r.2=0∧ReachOk c s0 r.1)∨(r.2≠0∧r.1=[])):=by
  have sm:=qt (hc.off.lt (by omega)) hv.cv
  have sa:=sm.Zai
  unfold xy
  refine Ret.bindE hst ?_
  refine Ret.ite (fun _ => ?_) (fun h=>by cases h)
  refine Ret.bindE (Jw hc (p:={state:=s0,own:=false}) hv) ?_
  refine Ret.bind (P:=fun o:(List Zad) ⊕ Unit=>(∃ L,o=.inl L∧ReachOk c s0 L)∨(o=.inr ())) ?_ ?_
  · refine Ret.bind (P:=fun o:(List Zad) ⊕ Unit=>(∃ L,o=.inl L∧ReachOk c s0 L)∨(o=.inr ())) (Ret.iter (fun s:(List Zad)×Int×(List (ByteArray×Bool))=>RInv c s0 s.1 s.2.1 s.2.2) (fun s=>(1501 - s.2.1).toNat) ?_ ?_) ?_
    · refine ⟨⟨fun q hq => ?_,by simp,fun q hq => ?_,by simp⟩,fun q hq => ?_,by simp,by simp,fun m q hm hq=>by
        have:=(List.getElem?_eq_some_iff.1 hq).1
        simp at this;omega,⟨by simp,by simp⟩,fun j s hj=>by simp only at hj;omega⟩
      · rw [List.mem_singleton.1 hq];exact hv
      · rw [List.mem_singleton.1 hq];exact .base
      · simp only [zS,zp,List.mem_singleton]
        by_cases e:q=s0
        · subst e
          simp [txS]
        · have e2:txS q≠txt {state:=s0,own:=false}:=fun h=>e (by have:=J7 (p:={state:=q,own:=false}) (q:={state:=s0,own:=false}) hq hv h;exact congrArg Zah.state this)
          rw [if_neg e2]
          simp [e]
    · rintro ⟨L,i,F⟩ ⟨hinv,hrel,hfst,hat0,hbfs,hle,hdone⟩
      simp only at hinv hrel hfst hat0 hbfs hle hdone ⊢
      have hlen:=hinv.len
      refine Ret.ite (fun hlt => ?_) (fun hge => ?_)
      · have hlt:=of_decide_eq_true hlt
        obtain ⟨hi,hie⟩:=qW hle.1 hlt
        have hme:=List.getElem_mem hi
        have hget:=List.getElem?_eq_getElem hi
        have hve:=hinv.vs _ hme
        have hre:=hinv.rch _ hme
        generalize he:L[i.toNat]=e at hie hme hget hve hre
        refine Ret.bind (P:=fun o:((List Zad)×(List (ByteArray×Bool))) ⊕ Unit=>(∃ L' F',o=.inl (L',F')∧SInv c s0 L'∧zaW c F' L'∧Bfs c L'∧(∃ r,L'=L++r)∧Done c L' e c.Zai.length)∨(o=.inr ())) ?_ ?_
        · refine Ret.bindE hie ?_
          refine Ret.ite (fun hd => ?_) (fun hd => ?_)
          · have hd:=beq_iff_eq.1 hd
            exact Ret.some (.inl ⟨L,F,rfl,hinv,hrel,hbfs,⟨[],by simp⟩,fun h=>by omega⟩)
          · have hd:=beq_eq_false_iff_ne.1 hd
            have hday:=hve.day
            have hd2:e.day < c.Zat:=by omega
            refine Ret.bind (P:=fun o:((List Zad)×(List (ByteArray×Bool))) ⊕ Unit=>(∃ L' F',o=.inl (L',F')∧SInv c s0 L'∧zaW c F' L'∧Bfs c L'∧(∃ r,L'=L++r)∧Done c L' e c.Zai.length)∨(o=.inr ()))
              (Ret.iter (fun s:(List Zad)×Int×(List (ByteArray×Bool))=>SInv c s0 s.1∧zaW c s.2.2 s.1∧Bfs c s.1∧(∃ r,s.1=L++r)∧(-1≤s.2.1∧s.2.1≤(c.Zai.length:Int))∧Done c s.1 e s.2.1) (fun s=>((c.Zai.length:Int)+1 - s.2.1).toNat) ⟨hinv,hrel,hbfs,⟨[],by simp⟩,⟨by simp,by show (-1:Int)≤_;omega⟩,fun _ a h1 h2=>by simp only at h2;omega⟩ ?_) ?_
            · rintro ⟨L2,a,F2⟩ ⟨hinv2,hrel2,hbfs2,⟨r2,hr2⟩,ha,hdo⟩
              simp only at hinv2 hrel2 hbfs2 hr2 ha hdo ⊢
              have hlen2:=hinv2.len
              refine Ret.ite (fun hlt2 => ?_) (fun hge2 => ?_)
              · have hlt2:=of_decide_eq_true hlt2
                obtain ⟨est,hvs,_⟩:=xX hc hve ha.1 hlt2 hd2
                have hrs:SR c s0 (z8 c e a):=.step hre ha.1 hlt2 hd2
                have hbs:Bfs c (L2++[z8 c e a]):=hbfs2.snoc (i:=i.toNat) (e:=e) (a:=a) (by rw [hr2];exact vL hget) hd2 ha.1 hlt2 rfl (fun j s hj hs=>by
                  have hil:=(List.getElem?_eq_some_iff.1 hget).1
                  rw [hr2,List.getElem?_append_left (by omega)] at hs
                  have:=hdone j s (by omega) hs
                  rw [hr2]
                  exact this.app r2)
                refine Ret.bind (P:=fun o:((List Zad)×(List (ByteArray×Bool))) ⊕ Unit=>(∃ L' F',o=.inl (L',F')∧SInv c s0 L'∧zaW c F' L'∧Bfs c L'∧(∃ r,L'=L++r)∧Done c L' e (a+1))∨(o=.inr ())) ?_ ?_
                · have hget2:ze L2 i=some e:=by
                    unfold ze;rw [if_pos hle.1,hr2];exact vL hget
                  refine Ret.bindE hget2 ?_
                  refine Ret.bindE est ?_
                  refine Ret.bindE (Jw hc (p:={state:=z8 c e a,own:=false}) hvs) ?_
                  have hdn:∀ L':List Zad,(∃ r,L'=L2++r)→z8 c e a∈L'→Done c L' e (a+1):=by
                    rintro L' ⟨r,rfl⟩ hin _ b hb1 hb2
                    by_cases hba:b=a
                    · subst hba;exact hin
                    · exact List.mem_append.2 (.inl (hdo hd2 b hb1 (by omega)))
                  have hrq:=hrel2 (z8 c e a) hvs
                  generalize z8 c e a=q at hrq hvs hrs hdn hbs
                  refine Ret.ite (fun hfound => ?_) (fun hnew => ?_)
                  · have hin:=hrq.1 hfound
                    exact Ret.some (.inl ⟨L2,F2,rfl,hinv2,hrel2,hbfs2,⟨r2,hr2⟩,hdn L2 ⟨[],by simp⟩ hin⟩)
                  · have hnin:q ∉ L2:=fun h=>by
                      have:=hrq.2 h
                      have hnew':(zp (txS q) F2).getD false=false:=hnew
                      rw [hnew'] at this;cases this
                    refine Ret.ite (fun hfull => ?_) (fun hroom => ?_)
                    · have:=beq_iff_eq.1 hfull
                      exact Ret.some (.inr rfl)
                    · have:=beq_eq_false_iff_ne.1 hroom
                      refine Ret.bindE (jw (by simp;omega)) ?_
                      refine Ret.some (.inl ⟨_,_,rfl,⟨fun x hx => ?_,?_,fun x hx => ?_,by simp;omega⟩,fun x hx => ?_,hbs,⟨r2++[q],by rw [hr2,List.append_assoc]⟩,hdn _ ⟨[q],rfl⟩ (by simp)⟩)
                      · rcases List.mem_append.1 hx with hx | hx
                        · exact hinv2.vs x hx
                        · rw [List.mem_singleton.1 hx];exact hvs
                      · exact List.nodup_append.2 ⟨hinv2.nd,by simp,fun a ha b hb=>by rw [List.mem_singleton.1 hb];intro e;subst e;exact hnin ha⟩
                      · rcases List.mem_append.1 hx with hx | hx
                        · exact hinv2.rch x hx
                        · rw [List.mem_singleton.1 hx];exact hrs
                      · by_cases hxq:x=q
                        · subst hxq
                          have:zp (txS x) (zS (txt {state:=x,own:=false}) true F2)=some true:=jz _ _ _
                          rw [this];simp
                        · have hne:txS x≠txt {state:=q,own:=false}:=fun h=>hxq (by have:=J7 (p:={state:=x,own:=false}) (q:={state:=q,own:=false}) hx hvs h;exact congrArg Zah.state this)
                          rw [jZ _ hne,hrel2 x hx]
                          simp [hxq]
                · rintro o (⟨L',F',rfl,q1,q2,qb,q3,q4⟩ | rfl)
                  · simp only [Sum.elim_inl]
                    rw [zW (by omega) (by omega)]
                    refine Ret.some ⟨⟨q1,q2,qb,q3,⟨by show -1≤a+1;omega,by show a+1≤(c.Zai.length:Int);omega⟩,q4⟩,?_⟩
                    show ((c.Zai.length:Int)+1 - (a+1)).toNat < ((c.Zai.length:Int)+1 - a).toNat
                    omega
                  · exact Ret.some (.inr rfl)
              · have hge2:=of_decide_eq_false hge2
                have:a=(c.Zai.length:Int):=by omega
                subst this
                exact Ret.some (.inl ⟨L2,F2,rfl,hinv2,hrel2,hbfs2,⟨r2,hr2⟩,hdo⟩)
            · rintro o (⟨L',F',rfl,h⟩ | rfl)
              · exact Ret.some (.inl ⟨L',F',rfl,h⟩)
              · exact Ret.some (.inr rfl)
        · rintro o (⟨L',F',rfl,q1,q2,qb,⟨r,q3⟩,q4⟩ | rfl)
          · simp only [Sum.elim_inl]
            rw [zW (by omega) (by omega)]
            have hll:L.length≤L'.length:=by rw [q3];simp
            refine Ret.some ⟨⟨q1,q2,by show s0∈L';rw [q3];exact List.mem_append.2 (.inl hfst),by show L'[0]?=some s0;rw [q3];exact vL hat0,qb,⟨by show 0≤i+1;omega,by show i+1≤(L'.length:Int);omega⟩,?_⟩,?_⟩
            · intro j s hj hs
              have hj:(j:Int) < i+1:=hj
              have hs:L'[j]?=some s:=hs
              have hjL:L[j]?=some s:=by
                rw [q3,List.getElem?_append_left (by omega)] at hs;exact hs
              by_cases hji:(j:Int) < i
              · show Done c L' s c.Zai.length
                rw [q3];exact (hdone j s hji hjL).app r
              · have:j=i.toNat:=by omega
                subst this
                rw [hget] at hjL;cases hjL
                exact q4
            · show (1501 - (i+1)).toNat < (1501 - i).toNat
              omega
          · exact Ret.some (.inr rfl)
      · have hge:=of_decide_eq_false hge
        refine Ret.some (.inl ⟨L,rfl,hinv,hfst,hat0,hbfs,fun s hs => ?_⟩)
        obtain ⟨j,hj,e⟩:=List.getElem_of_mem hs
        exact hdone j s (by omega) (by rw [List.getElem?_eq_getElem hj,e])
    · rintro o (⟨L,rfl,h⟩ | rfl)
      · exact Ret.some (.inl ⟨L,rfl,h⟩)
      · exact Ret.some (.inr rfl)
  · rintro o (⟨L,rfl,h⟩ | rfl)
    · exact Ret.some (.inl ⟨rfl,h⟩)
    · exact Ret.some (.inr ⟨by simp,rfl⟩)
end Go.Proofs.YtlpmnmbebkdocaaGreatDoor
