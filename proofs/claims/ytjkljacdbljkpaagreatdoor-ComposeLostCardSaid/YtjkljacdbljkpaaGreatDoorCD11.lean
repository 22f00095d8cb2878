/-
  What Valid says.
  What 'slices.BinarySearch' comes to; sizes of valid contracts.
  What 'system.Valid' comes to.
  What is known of a valid contract; what 'start' does.
  What 'system.Step' does.
  What an act does.
  'system.Step': what it returns.
  'arena.Moves' and 'arena.After': what they return.
  What 'slices.BinarySearch' and 'contract.Part' come to.
  States of parts of a contract: a step of the contract is a step of each part.
  What is left to do grows less with each own act.
  Trees of clauses: what 'root', 'join' and 'gather' of package contract come to.
  What 'contract.Components' and the law's 'part' come to.
-/
import Derived.Test.YtjkljacdbljkpaaGreatDoorCD10
import Derived.Test.YtjkljacdbljkpaaGreatDoorCD06
namespace Go.Proofs.YtjkljacdbljkpaaGreatDoor
open Go.RowKit
set_option linter.unusedSimpArgs false
set_option linter.unusedVariables false
set_option maxRecDepth 100000
theorem LOk.lt {α:Type} {n:Nat} {p:α→Prop} {l:List α} (h:LOk n p l) (hn:0 < n):l.length < 4611686018427387904:=by
  have h1:=h.1
  have h2:reachBytes≤140737488355328:=by decide +kernel
  have:=Nat.le_mul_of_pos_right l.length hn
  omega
theorem ContractT.Ok.valid {c:ContractT} (hc:c.Ok):jw c=some (zZ c):=
  VY c (hc.off.lt (by omega)) (fun k hk=>(hc.clauses.2 k hk).start.lt (by omega))
inductive ValidIs (c:ContractT):Int×Int→Prop where
  | lim (h:vE c=true):ValidIs c (3,-1)
  | frame (h:vE c=false) (hf:jx c=false):ValidIs c (1,-1)
  | bad (h:vE c=false) (hf:jx c=true) (i:Nat) (hi:i < c.clauses.length) (hb:clB c i=false) (hl:∀ j,j < i→clB c j=true):ValidIs c (1,(i:Int))
  | ok (h:vE c=false) (hf:jx c=true) (ha:∀ j,j < c.clauses.length→clB c j=true):ValidIs c (0,-1)
theorem zgt (c:ContractT):ValidIs c (zZ c):=by
  unfold zZ
  cases h:vE c with
  | true=>exact .lim h
  | false=>
    simp only [cond_false]
    cases hf:jx c with
    | false=>exact .frame h hf
    | true=>
      simp only [cond_true]
      cases hq:(List.range c.clauses.length).find? (fun j=>!clB c j) with
      | none=>exact .ok h hf (yu hq)
      | some j=>obtain ⟨h1,h2,h3⟩:=yv hq;exact .bad h hf j h1 h2 h3
theorem yF {c:ContractT} (h:(zZ c).1=0):vE c=false∧jx c=true∧(∀ j,j < c.clauses.length→clB c j=true)∧zZ c=(0,-1):=by
  have hv:=zgt c
  generalize hr:zZ c=r at h hv ⊢
  cases hv with
  | lim _=>simp at h
  | frame _ _=>simp at h
  | bad _ _ i _ _ _=>simp at h
  | ok a b d=>exact ⟨a,b,d,rfl⟩
theorem ze7 {c:ContractT} (h:vE c=false) (hf:jx c=true) (ha:∀ j,j < c.clauses.length→clB c j=true):zZ c=(0,-1):=by
  unfold zZ;rw [h,hf,zaN ha];rfl
theorem zjE (x y:Int):ZU x y=some (decide (x < y)):=by
  simp [ZU,QD]
theorem zjF {a b:Int} (h0:0≤a) (h1:a≤b) (h2:b < 4611686018427387904):Jo .u64 .u64 (IntKind.u64.wrap (IntKind.i64.wrap (a+b))) 1=some ((a+b) / 2):=by
  rw [qx (by omega) (by omega),zfG (by omega) (by omega)]
  unfold Jo
  rw [if_neg (by omega)]
  have:(2:Int) ^ (min (1:Int).toNat IntKind.u64.bits)=2:=by decide
  rw [this,Int.fdiv_eq_ediv_of_nonneg _ (by omega)]
def jm (l:List Int) (v:Int):Option Int:=if v∈l then some (l.idxOf v:Int) else none
theorem zgu {l:List Int} (hn:l.Nodup) {i:Nat} (hi:i < l.length):l.idxOf l[i]=i:=by
  have h1:l.idxOf l[i] < l.length:=List.idxOf_lt_length_iff.2 (List.getElem_mem hi)
  have h2:=List.getElem_idxOf h1
  exact (List.getElem?_inj h1 hn).1 (by rw [List.getElem?_eq_getElem h1,List.getElem?_eq_getElem hi,h2])
theorem JH {l:List Int} {v p:Int} (h:jm l v=some p):0≤p∧l[p.toNat]?=some v:=by
  unfold jm at h
  split at h
  · rename_i hm
    cases h
    have h1:l.idxOf v < l.length:=List.idxOf_lt_length_iff.2 hm
    exact ⟨by omega,by simp only [Int.toNat_natCast];rw [List.getElem?_eq_getElem h1,List.getElem_idxOf h1]⟩
  · cases h
theorem zhX {l:List Int} (hn:l.Nodup) {i:Nat} {v:Int} (h:l[i]?=some v):jm l v=some (i:Int):=by
  obtain ⟨hi,rfl⟩:=List.getElem?_eq_some_iff.1 h
  unfold jm
  rw [if_pos (List.getElem_mem hi),zgu hn hi]
theorem Z0 (l:List Int) (v:Int) (hs:l.Pairwise (· < ·)) (hl:l.length < 4611686018427387904):∃ r:Int,qC l v=some (r,(jm l v).isSome)∧∀ p,jm l v=some p→r=p:=by
  have hp:=List.pairwise_iff_getElem.1 hs
  unfold qC
  have hit:Ret (iter (σ:=Int×Int) (ρ:=Int) (fun s1=>(bif decide (s1.1 < s1.2) then (Option.bind (Jo .u64 .u64 (IntKind.u64.wrap (IntKind.i64.wrap (s1.1+s1.2))) 1) fun e1=>(Option.bind (ze l (IntKind.i64.wrap e1)) fun e2=>(Option.bind (ZU e2 v) fun r1=>(bif r1 then some (.inl ((IntKind.i64.wrap ((IntKind.i64.wrap e1)+1)),s1.2)) else some (.inl (s1.1,(IntKind.i64.wrap e1))))))) else some (.inr s1.1))) (0,(l.length:Int)))
      (fun r=>0≤r∧r≤l.length∧(∀ (j:Nat) (hj:j < l.length),(j:Int) < r→l[j] < v)∧(∀ (j:Nat) (hj:j < l.length),r≤(j:Int)→v≤l[j])):=by
    refine Ret.iter (fun s=>0≤s.1∧s.1≤s.2∧s.2≤l.length∧(∀ (j:Nat) (hj:j < l.length),(j:Int) < s.1→l[j] < v)∧(∀ (j:Nat) (hj:j < l.length),s.2≤(j:Int)→v≤l[j])) (fun s=>(s.2 - s.1).toNat) ⟨by simp,by simp,by simp,fun j hj h=>by simp only at h;omega,fun j hj h=>by simp only at h;omega⟩ ?_
    rintro ⟨lo,hi⟩ ⟨h1,h2,h3,h4,h5⟩
    simp only at h1 h2 h3 h4 h5 ⊢
    refine Ret.ite (fun hb => ?_) (fun hb => ?_)
    · have hlt:=of_decide_eq_true hb
      rw [zjF h1 h2 (by omega)]
      simp only [Option.bind_some]
      have hm1:lo≤(lo+hi) / 2:=by omega
      have hm2:(lo+hi) / 2 < hi:=by omega
      generalize (lo+hi) / 2=m at hm1 hm2 ⊢
      rw [qx (by omega) (by omega)]
      obtain ⟨hi',e⟩:=qU (l:=l) (n:=m) (by omega) (by omega)
      rw [e,qx (by omega) (by omega)]
      simp only [Option.bind_some,zjE]
      refine Ret.ite (fun hb2 => ?_) (fun hb2 => ?_)
      · have hv:=of_decide_eq_true hb2
        refine Ret.some ⟨⟨by show 0≤m+1;omega,by show m+1≤hi;omega,h3,fun j hj hjm => ?_,h5⟩,by show (hi - (m+1)).toNat < (hi - lo).toNat;omega⟩
        have hjm:(j:Int) < m+1:=hjm
        rcases Nat.lt_or_ge j m.toNat with h | h
        · have:=hp j m.toNat hj hi' h;omega
        · obtain rfl:j=m.toNat:=by omega
          exact hv
      · have hv:¬ l[m.toNat] < v:=of_decide_eq_false hb2
        refine Ret.some ⟨⟨h1,by show lo≤m;omega,by show m≤(l.length:Int);omega,h4,fun j hj hjm => ?_⟩,by show (m - lo).toNat < (hi - lo).toNat;omega⟩
        have hjm:m≤(j:Int):=hjm
        rcases Nat.lt_or_ge m.toNat j with h | h
        · have:=hp m.toNat j hi' hj h;omega
        · obtain rfl:j=m.toNat:=by omega
          omega
    · have hlt:¬ lo < hi:=of_decide_eq_false hb
      have:lo=hi:=by omega
      subst this
      exact Ret.some ⟨h1,h3,h4,h5⟩
  obtain ⟨r,hr,hr0,hr1,hr2,hr3⟩:=hit
  rw [hr]
  simp only [Option.bind_some]
  by_cases hlt:r < (l.length:Int)
  · obtain ⟨hi',e⟩:=qU (l:=l) (n:=r) hr0 hlt
    simp only [hlt,decide_true,cond_true,e,Option.bind_some]
    by_cases hv:l[r.toNat]=v
    · have hpos:jm l v=some (r.toNat:Int):=zhX (zeE hs) (by rw [List.getElem?_eq_getElem hi',hv])
      refine ⟨r,by simp [hv,hpos],fun p hp => ?_⟩
      rw [hpos] at hp;cases hp;omega
    · have hn:jm l v=none:=by
        unfold jm
        rw [if_neg]
        intro hm
        obtain ⟨j,hj,e2⟩:=List.getElem_of_mem hm
        rcases Nat.lt_trichotomy j r.toNat with h | h | h
        · have:=hr2 j hj (by omega);omega
        · subst h;exact hv e2
        · have h6:=hp r.toNat j hi' hj h
          have h7:=hr3 r.toNat hi' (by omega)
          omega
      refine ⟨r,?_,fun p hp=>by rw [hn] at hp;cases hp⟩
      rw [hn]
      have:(l[r.toNat] == v)=false:=beq_eq_false_iff_ne.2 hv
      simp [this,kh]
  · have hn:jm l v=none:=by
      unfold jm
      rw [if_neg]
      intro hm
      obtain ⟨j,hj,e2⟩:=List.getElem_of_mem hm
      have:=hr2 j hj (by omega);omega
    refine ⟨r,?_,fun p hp=>by rw [hn] at hp;cases hp⟩
    rw [hn]
    simp [hlt]
theorem zhY {days:Int} {off:List Int} (hl:off.length < 4611686018427387904) (h:JF days off=true):(off.length:Int)≤days∨off.length=0:=by
  have e:JF days off=x9 days (-1) off:=by
    unfold JF
    rw [zdb days off hl (-1)]
    cases x9 days (-1) off<;>rfl
  rw [e] at h
  rcases kI h with h1 | h1<;>omega
structure Small (c:ContractT):Prop where
  parties:1≤c.parties∧c.parties≤12
  days:1≤c.days∧c.days≤2000
  holders:c.holders.length≤12
  units:c.units.length≤20
  acts:c.acts.length≤60
  clauses:c.clauses.length≤400
  off:c.off.length≤2000
  start:∀ k∈c.clauses,k.start.length≤8
  cond:∀ (i:Nat) (k:ClauseT),c.clauses[i]?=some k→∀ s∈k.start,0≤s.clause∧s.clause < c.clauses.length∧s.clause≠(i:Int)
theorem qu {c:ContractT} (ho:c.off.length < 4611686018427387904) (h:(zZ c).1=0):Small c:=by
  obtain ⟨h1,h2,h3,_⟩:=yF h
  simp only [vE,Bool.or_eq_false_iff,decide_eq_false_iff_not] at h1
  obtain ⟨a1,a2,a3,a4,a5,a6⟩:=h1
  simp only [jx,Bool.and_eq_true,Bool.not_eq_true',decide_eq_false_iff_not] at h2
  obtain ⟨b1,b2,b3,b4,b5,b6,b7⟩:=h2
  have hcl:∀ (i:Nat) (k:ClauseT),c.clauses[i]?=some k→wH c.holders.length c.units c.acts c.clauses.length i k=true:=fun i k hk=>by
    have:=h3 i (List.getElem?_eq_some_iff.1 hk).1
    simp only [clB,hk] at this
    exact this
  refine ⟨⟨by omega,by omega⟩,⟨by omega,by omega⟩,by omega,by omega,by omega,by omega,?_,fun k hk => ?_,fun i k hk s hs => ?_⟩
  · rcases zhY ho b7 with h | h<;>omega
  · obtain ⟨i,hi,e⟩:=List.getElem_of_mem hk
    have:=hcl i k (by rw [←e];exact List.getElem?_eq_getElem hi)
    simp only [wH,Bool.and_eq_true,Bool.not_eq_true',decide_eq_false_iff_not] at this
    omega
  · have:=hcl i k hk
    simp only [wH,Bool.and_eq_true] at this
    have:=List.all_eq_true.1 this.2.2.1 s hs
    simp only [Xi,Bool.and_eq_true,Bool.not_eq_true',decide_eq_false_iff_not,beq_eq_false_iff_ne] at this
    exact ⟨by omega,by omega,this.2.2.1⟩
theorem js {α:Type} {by_:Nat} {l:List α} (h:l.length*by_≤140737488355328):zu by_ l=some l:=by unfold zu;rw [if_pos h]
theorem Zs {f:Nat→Unit→Option (Unit ⊕ Unit)} {n:Nat} (p:Nat→Bool) (hn:n < 4611686018427387904) (h:∀ j,j < n→f j ()=some (bif p j then .inl () else .inr ())) :
    forR (n:Int) f ()=some (bif (List.range n).all p then .inl () else .inr ()):=by
  rw [xS p (fun _=>()) hn h]
  cases hf:(List.range n).find? (fun j=>!p j) with
  | none=>
    have:(List.range n).all p=true:=List.all_eq_true.2 fun j hj=>yu hf j (List.mem_range.1 hj)
    rw [this];rfl
  | some k=>
    obtain ⟨h1,h2,_⟩:=yv hf
    have:(List.range n).all p=false:=by
      rw [Bool.eq_false_iff]
      intro h
      have:=List.all_eq_true.1 h k (List.mem_range.2 h1)
      rw [h2] at this;cases this
    rw [this];rfl
theorem ya {α ρ:Type} {f:Nat→List α→Option (List α ⊕ ρ)} (s0:List α) (F:Nat→α→α) (hl:s0.length < 4611686018427387904)
    (h:∀ (i:Nat) (m:α) (s:List α),s0[i]?=some m→s.length=s0.length→s[i]?=some m→f i s=some (.inl (s.set i (F i m)))) :
    forR (s0.length:Int) f s0=some (.inl (s0.mapIdx F)):=by
  obtain ⟨o,h1,h2⟩:=xR (n:=s0.length) (s0:=s0) (f:=f) (fun i s=>s.length=s0.length∧∀ j,s[j]?=if j < i then (s0[j]?).map (F j) else s0[j]?) (fun _=>False) hl ⟨rfl,fun j=>by simp⟩ (fun i s hi ⟨a,b⟩=>by
    have hs:s[i]?=some s0[i]:=by rw [b i,if_neg (by omega),List.getElem?_eq_getElem hi]
    refine ⟨_,h i s0[i] s (List.getElem?_eq_getElem hi) a hs,by simpa using a,fun j => ?_⟩
    rw [List.getElem?_set]
    by_cases hij:i=j
    · subst hij
      rw [if_pos rfl,if_pos (by omega),if_pos (by omega),List.getElem?_eq_getElem hi];rfl
    · rw [if_neg hij,b j]
      by_cases h3:j < i
      · rw [if_pos h3,if_pos (by omega)]
      · rw [if_neg h3,if_neg (by omega)])
  rw [h1]
  cases o with
  | inr r=>exact h2.elim
  | inl s=>
    obtain ⟨a,b⟩:=h2
    congr 2
    refine List.ext_getElem? fun j => ?_
    rw [b j,List.getElem?_mapIdx]
    by_cases hj:j < s0.length
    · rw [if_pos hj]
    · rw [if_neg hj,List.getElem?_eq_none (by omega)];rfl
def jn (marks:List MarkT) (s:CondT):Bool:=match ze marks s.clause with
  | some m=>bif s.is == 1 then !(m.status == 0) else bif s.is == 2 then m.status == 3 else bif s.is == 3 then m.status == 4 else bif s.is == 4 then m.status == 5 else false
  | none=>false
def je (ks:List ClauseT) (marks:List MarkT) (i:Nat):Bool:=match ks[i]?,marks[i]? with
  | some k,some m=>(m.status == 0 && !k.waived)&&k.start.all (jn marks)
  | _,_=>false
def kR (parties:Int) (k:ClauseT) (m:MarkT):Bool:=
  !(k.waived||(decide (m.left < 1)||(m.paused&&k.pause == -1)))&&(((m.got == 0)||(k.kind == 1 && !(decide (m.got < 0)||decide (k.need≤m.got)))) &&
    (bif k.kind == 4 then m.bearer == -1 else decide (0≤m.bearer)&&decide (m.bearer < parties)))
def KF (m:MarkT):Bool:=(m.status == 0)&&((m.left == 0)&&((m.got == 0)&&((m.bearer == (-1))&&((m.paused == false)&&true))))
def zdr (parties:Int) (m:MarkT):Bool:=(m.left == 0)&&(decide (0≤m.got)&&(decide (m.got≤9)&&(decide ((-1)≤m.bearer)&&(decide (m.bearer < parties) && !m.paused))))
def jh (parties:Int) (k:ClauseT) (m:MarkT):Bool:=
  bif m.status == 0 then !k.waived&&KF m else bif m.status == 1 then decide (m.left≤k.after)&&kR parties k m
  else bif m.status == 2 then k.kind == 1&&(decide (m.left≤k.grace)&&kR parties k m) else (m.status == 3||(m.status == 4||m.status == 5))&&zdr parties m
theorem zds (c:ContractT) (k:ClauseT) (m:MarkT):wW c k m=some (kR c.parties k m):=by
  simp only [wW,kR,zo,Option.bind_some]
  cases k.waived<;>cases decide (m.left < 1)<;>cases m.paused<;>cases (k.pause == -1)<;>cases (m.got == 0)<;>cases (k.kind == 1)<;>cases decide (m.got < 0)<;>cases decide (k.need≤m.got)<;>cases (k.kind == 4)<;>cases decide (0≤m.bearer)<;>rfl
theorem zbU (c:ContractT) (i:Nat) (k:ClauseT) (m:MarkT) (hk:c.clauses[i]?=some k):vZ c i m=some (jh c.parties k m):=by
  unfold vZ
  rw [zJ hk]
  simp only [Option.bind_some,zds,zo,jh,KF,zdr]
  cases (m.status == 0)
  · cases (m.status == 1)
    · cases (m.status == 2)
      · cases (m.status == 3)<;>cases (m.status == 4)<;>cases (m.status == 5)<;>cases (m.left == 0)<;>cases decide (0≤m.got)<;>cases decide (m.got≤9)<;>cases decide ((-1)≤m.bearer)<;>cases decide (m.bearer < c.parties)<;>rfl
      · cases (k.kind == 1)<;>cases decide (m.left≤k.grace)<;>rfl
    · cases decide (m.left≤k.after)<;>rfl
  · cases k.waived<;>rfl
theorem zcj (c:ContractT) (s:StateT) (i:Nat) (k:ClauseT) (m:MarkT) (hk:c.clauses[i]?=some k) (hm:s.marks[i]?=some m) (hst:k.start.length < 4611686018427387904)
    (hc:∀ x∈k.start,0≤x.clause∧x.clause < s.marks.length):vz c s i=some (je c.clauses s.marks i):=by
  unfold vz je
  rw [zJ hm,zJ hk,hk,hm]
  simp only [Option.bind_some]
  rw [kQ (l:=k.start) (jn s.marks) hst (fun j hj=>by
    obtain ⟨h0,h1⟩:=hc _ (List.getElem_mem hj)
    obtain ⟨h2,h3⟩:=qU h0 h1
    simp only [zO,List.getElem?_eq_getElem hj,Option.bind_some,h3,jn,zo])]
  simp only [Option.bind_some,zo]
  cases (m.status == 0)<;>cases k.waived<;>cases k.start.all (jn s.marks)<;>rfl
def Xj (acts:List ActT) (used:List Bool) (i:Nat):Bool:=match acts[i]?,used[i]? with
  | some a,some u=>!(u&&a.kind == 1)
  | _,_=>false
def kS (c:ContractT) (marks:List MarkT) (i:Nat):Bool:=match c.clauses[i]?,marks[i]? with
  | some k,some m=>jh c.parties k m && !je c.clauses marks i
  | _,_=>false
noncomputable def vsB (c:ContractT) (s:StateT):Bool:=
  ((zZ c).1 == 0)&&((!(decide (s.day < 0))&&(!(decide (c.days < s.day))&&((s.holders.length:Int) == c.holders.length&&((s.used.length:Int) == c.acts.length&&(s.marks.length:Int) == c.clauses.length)))) &&
    (yV c.parties s.holders&&((List.range s.used.length).all (Xj c.acts s.used)&&(List.range s.marks.length).all (kS c s.marks))))
theorem vF (c:ContractT) (s:StateT) (hc:c.Ok):qT c s=some (vsB c s):=by
  unfold qT vsB
  rw [hc.valid]
  simp only [Option.bind_some]
  cases hv:((zZ c).1 == 0) with
  | false=>rfl
  | true=>
    have sm:=qu (hc.off.lt (by omega)) (beq_iff_eq.1 hv)
    simp only [cond_true,zo,Option.bind_some,Bool.true_and]
    cases h1:decide (s.day < 0)<;>cases h2:decide (c.days < s.day)<;>cases h3:((s.holders.length:Int) == c.holders.length)<;>cases h4:((s.used.length:Int) == c.acts.length)<;>cases h5:((s.marks.length:Int) == c.clauses.length)<;>try rfl
    simp only [cond_true,cond_false,Bool.not_true,Bool.not_false,Bool.true_and]
    have e3:=beq_iff_eq.1 h3
    have e4:=beq_iff_eq.1 h4
    have e5:=beq_iff_eq.1 h5
    have:=sm.holders
    have:=sm.acts
    have:=sm.clauses
    rw [kQ (l:=s.holders) (fun h=>decide (0≤h)&&decide (h < c.parties)) (by omega) (fun j hj=>by
      simp only [zO,List.getElem?_eq_getElem hj,Option.bind_some,zo]
      generalize s.holders[j]=h
      by_cases a:h < 0
      · have b:¬ 0≤h:=by omega
        simp [a,b]
      · have b:0≤h:=by omega
        by_cases d:h < c.parties
        · have d':¬ c.parties≤h:=by omega
          simp [a,b,d,d']
        · have d':c.parties≤h:=by omega
          simp [a,b,d,d'])]
    rw [Zs (n:=s.used.length) (Xj c.acts s.used) (by omega) (fun j hj=>by
      have hj':j < c.acts.length:=by omega
      simp only [zO,List.getElem?_eq_getElem hj,List.getElem?_eq_getElem hj',Option.bind_some,zo,Xj]
      cases s.used[j]<;>cases (c.acts[j].kind == 1)<;>rfl)]
    rw [Zs (n:=s.marks.length) (kS c s.marks) (by omega) (fun j hj=>by
      have hj':j < c.clauses.length:=by omega
      have hk:=List.getElem?_eq_getElem hj'
      have hm:=List.getElem?_eq_getElem hj
      simp only [zO,hm,Option.bind_some]
      rw [zbU c j _ _ hk,zcj c s j _ _ hk hm (by have:=sm.start _ (List.getElem_mem hj');omega) (fun x hx=>by have:=sm.cond j _ hk x hx;omega)]
      simp only [Option.bind_some,kS,hk,hm]
      cases jh c.parties c.clauses[j] s.marks[j]<;>cases je c.clauses s.marks j<;>rfl)]
    simp only [yV,Option.bind_some]
    cases s.holders.all (fun h=>decide (0≤h)&&decide (h < c.parties))<;>cases (List.range s.used.length).all (Xj c.acts s.used)<;>cases (List.range s.marks.length).all (kS c s.marks)<;>rfl
structure VS (c:ContractT) (s:StateT):Prop where
  cv:(zZ c).1=0
  day:0≤s.day∧s.day≤c.days
  lh:s.holders.length=c.holders.length
  lu:s.used.length=c.acts.length
  lm:s.marks.length=c.clauses.length
  hold:∀ h∈s.holders,0≤h∧h < c.parties
  used:∀ (i:Nat) (a:ActT),c.acts[i]?=some a→s.used[i]?=some true→a.kind≠1
  mrk:∀ (i:Nat) (k:ClauseT) (m:MarkT),c.clauses[i]?=some k→s.marks[i]?=some m→jh c.parties k m=true
  rdy:∀ i,i < c.clauses.length→je c.clauses s.marks i=false
theorem zhi {c:ContractT} {s:StateT} (h:vsB c s=true):VS c s:=by
  simp only [vsB,Bool.and_eq_true,Bool.not_eq_true',decide_eq_false_iff_not,beq_iff_eq,List.all_eq_true,List.mem_range,yV,decide_eq_true_eq] at h
  obtain ⟨h1,⟨h2,h3,h4,h5,h6⟩,h7,h8,h9⟩:=h
  refine ⟨h1,⟨by omega,by omega⟩,by omega,by omega,by omega,fun x hx=>h7 x hx,fun i a ha hu hk => ?_,fun i k m hk hm => ?_,fun i hi => ?_⟩
  · have:=h8 i (by have:=(List.getElem?_eq_some_iff.1 hu).1;exact this)
    simp only [Xj,ha,hu,hk] at this
    cases this
  · have:=h9 i (List.getElem?_eq_some_iff.1 hm).1
    simp only [kS,hk,hm,Bool.and_eq_true] at this
    exact this.1
  · have hi':i < s.marks.length:=by omega
    have:=h9 i hi'
    simp only [kS,List.getElem?_eq_getElem hi,List.getElem?_eq_getElem hi',Bool.and_eq_true,Bool.not_eq_true'] at this
    exact this.2
theorem JI {c:ContractT} {s:StateT} (h:VS c s):vsB c s=true:=by
  have hd:=h.day
  have h4:=h.lh
  have h5:=h.lu
  have h6:=h.lm
  simp only [vsB,Bool.and_eq_true,Bool.not_eq_true',decide_eq_false_iff_not,beq_iff_eq,List.all_eq_true,List.mem_range,yV,decide_eq_true_eq]
  refine ⟨h.cv,⟨by omega,by omega,by omega,by omega,by omega⟩,fun x hx=>h.hold x hx,fun i hi => ?_,fun i hi => ?_⟩
  · have hi':i < c.acts.length:=by omega
    have ha:=List.getElem?_eq_getElem hi'
    have hu:=List.getElem?_eq_getElem hi
    simp only [Xj,ha,hu]
    cases hq:s.used[i] with
    | false=>rfl
    | true=>
      have:=h.used i _ ha (by rw [hu,hq])
      simp [this]
  · have hi':i < c.clauses.length:=by omega
    have ha:=List.getElem?_eq_getElem hi'
    have hu:=List.getElem?_eq_getElem hi
    simp only [kS,ha,hu,Bool.and_eq_true,Bool.not_eq_true']
    exact ⟨h.mrk i _ _ ha hu,h.rdy i hi'⟩
structure KV (c:ContractT) (i:Nat) (k:ClauseT):Prop where
  act:0≤k.act∧k.act < c.acts.length
  after:1≤k.after∧k.after≤400
  kind:k.kind=1∨k.kind=2∨k.kind=3∨k.kind=4
  role:k.kind=4∨(0≤k.role∧k.role < c.holders.length)
  need:1≤k.need∧k.need≤9
  grace:0≤k.grace∧k.grace≤400
  start:k.start.length≤8
  cond:∀ s∈k.start,0≤s.clause∧s.clause < c.clauses.length
  pause:(k.pause = -1∧k.resume = -1)∨(vD c.acts k.pause=true∧vD c.acts k.resume=true)
theorem ww {c:ContractT} (ho:c.off.length < 4611686018427387904) (h:(zZ c).1=0) {i:Nat} {k:ClauseT} (hk:c.clauses[i]?=some k):KV c i k:=by
  have sm:=qu ho h
  obtain ⟨_,_,h3,_⟩:=yF h
  have:=h3 i (List.getElem?_eq_some_iff.1 hk).1
  simp only [clB,hk,wH,Bool.and_eq_true,Bool.not_eq_true',decide_eq_false_iff_not] at this
  obtain ⟨⟨a1,a2,a3,a4⟩,⟨a5,a6⟩,a7,a8,_⟩:=this
  have hkd:(k.kind=1∨k.kind=2∨k.kind=3∨k.kind=4)∧(k.kind=4∨(0≤k.role∧k.role < c.holders.length))∧(1≤k.need∧k.need≤9)∧(0≤k.grace∧k.grace≤400):=by
    unfold Vl at a5
    cases h4:(k.kind == 4) with
    | true=>
      rw [h4] at a5
      simp only [cond_true,Bool.and_eq_true,beq_iff_eq] at a5
      have:=beq_iff_eq.1 h4
      omega
    | false=>
      rw [h4] at a5
      simp only [cond_false,Bool.and_eq_true,wa,decide_eq_true_eq] at a5
      obtain ⟨⟨b1,_⟩,b2⟩:=a5
      cases h1:(k.kind == 1) with
      | true=>
        rw [h1] at b2
        simp only [cond_true,Bool.and_eq_true,decide_eq_true_eq] at b2
        have:=beq_iff_eq.1 h1
        omega
      | false=>
        rw [h1] at b2
        cases h2:(k.kind == 2) with
        | true=>
          rw [h2] at b2
          simp only [cond_true,cond_false,Bool.and_eq_true,beq_iff_eq] at b2
          have:=beq_iff_eq.1 h2
          omega
        | false=>
          rw [h2] at b2
          simp only [cond_false,Bool.and_eq_true,beq_iff_eq] at b2
          omega
  refine ⟨⟨by omega,by omega⟩,⟨by omega,by omega⟩,hkd.1,hkd.2.1,hkd.2.2.1,hkd.2.2.2,by omega,fun s hs => ?_,?_⟩
  · have:=sm.cond i k hk s hs;omega
  · simp only [JG,Bool.or_eq_true,Bool.and_eq_true,beq_iff_eq,Bool.not_eq_true'] at a8
    rcases a8 with h | h
    · exact .inl h
    · exact .inr h.2
structure AV2 (c:ContractT) (a:ActT):Prop where
  role:(a.role = -1∧a.kind=1)∨(0≤a.role∧a.role < c.holders.length)
  kind:a.kind=1∨((a.kind=2∨a.kind=3)∧(0≤a.give∧a.give < c.holders.length)∧(0≤a.to∧a.to < c.parties))
theorem zdt {c:ContractT} (h:(zZ c).1=0) {i:Nat} {a:ActT} (ha:c.acts[i]?=some a):AV2 c a:=by
  obtain ⟨_,h2,_,_⟩:=yF h
  simp only [jx,Bool.and_eq_true,Bool.not_eq_true',decide_eq_false_iff_not] at h2
  obtain ⟨_,_,_,_,_,b6,_⟩:=h2
  have:=List.all_eq_true.1 b6 a (List.mem_of_getElem? ha)
  unfold VX at this
  cases hr:wa c.holders.length a.role with
  | true=>
    rw [hr] at this
    simp only [wa,Bool.and_eq_true,decide_eq_true_eq] at hr
    cases h1:(a.kind == 1) with
    | true=>exact ⟨.inr hr,.inl (beq_iff_eq.1 h1)⟩
    | false=>
      rw [h1] at this
      simp only [cond_true,cond_false,Bool.and_eq_true,Bool.or_eq_true,beq_iff_eq,wa,decide_eq_true_eq] at this
      exact ⟨.inr hr,.inr ⟨this.1,this.2.1,by omega⟩⟩
  | false=>
    rw [hr] at this
    simp only [cond_false,Bool.and_eq_true,beq_iff_eq] at this
    exact ⟨.inl ⟨this.2.1,this.1⟩,.inl this.1⟩
theorem zjG {c:ContractT} (ho:c.off.length < 4611686018427387904) (h:(zZ c).1=0):c.off.Pairwise (· < ·):=by
  obtain ⟨_,h2,_,_⟩:=yF h
  simp only [jx,Bool.and_eq_true] at h2
  have b7:=h2.2.2.2.2.2.2
  have e:JF c.days c.off=x9 c.days (-1) c.off:=by
    unfold JF
    rw [zdb c.days c.off ho (-1)]
    cases x9 c.days (-1) c.off<;>rfl
  rw [e] at b7
  exact (yw b7).2
def MOk (c:ContractT) (ms:List MarkT):Prop:=ms.length=c.clauses.length∧∀ (i:Nat) (k:ClauseT) (m:MarkT),c.clauses[i]?=some k→ms[i]?=some m→jh c.parties k m=true
def NR (c:ContractT) (ms:List MarkT):Prop:=∀ i,i < c.clauses.length→je c.clauses ms i=false
def xV (k:ClauseT) (b:Int):MarkT:={status:=1,left:=k.after,got:=0,bearer:=b,paused:=false}
def StR (c:ContractT) (ms ms':List MarkT):Prop:=∀ (i:Nat) (m m':MarkT),ms[i]?=some m→ms'[i]?=some m'→m'=m∨(m.status=0∧∃ k b,c.clauses[i]?=some k∧m'=xV k b)
def yb (ms:List MarkT):Nat:=ms.countP (fun m=>m.status == 0)
def Zt (hs:List Int) (k:ClauseT):Int:=bif k.kind == 4 then -1 else hs[k.role.toNat]?.getD 0
def kT (ks:List ClauseT) (ms:List MarkT):Nat→Nat→Prop
  | 0,_=>False
  | n+1,i=>∃ k m,ks[i]?=some k∧ms[i]?=some m∧m.status=0∧k.waived=false∧∀ x∈k.start,jn ms x=true∨(x.is=1∧kT ks ms n x.clause.toNat)
def Sta (ks:List ClauseT) (ms:List MarkT) (i:Nat):Prop:=∃ n,kT ks ms n i
def za2 (c:ContractT) (hs:List Int) (ms r:List MarkT):Prop:=∀ (i:Nat) (k:ClauseT) (m:MarkT),c.clauses[i]?=some k→ms[i]?=some m→r[i]?=some m∨(Sta c.clauses ms i∧r[i]?=some (xV k (Zt hs k)))
def zjH (c:ContractT) (hs:List Int) (ms r:List MarkT):Prop:=∀ (i:Nat) (k:ClauseT) (m:MarkT),c.clauses[i]?=some k→ms[i]?=some m→(¬ Sta c.clauses ms i∧r[i]?=some m)∨(Sta c.clauses ms i∧r[i]?=some (xV k (Zt hs k)))
theorem YX {ks:List ClauseT} {ms:List MarkT}:∀ (n i:Nat),kT ks ms n i→kT ks ms (n+1) i
  | 0,i,h=>h.elim
  | n+1,i,⟨k,m,h1,h2,h3,h4,h5⟩=>⟨k,m,h1,h2,h3,h4,fun x hx=>(h5 x hx).imp id fun h=>⟨h.1,YX n _ h.2⟩⟩
theorem VZ {ks:List ClauseT} {ms:List MarkT} {n i:Nat} (h:kT ks ms n i):∀ d,kT ks ms (n+d) i
  | 0=>h
  | d+1=>YX _ _ (VZ h d)
theorem zck {ks:List ClauseT} {ms:List MarkT}:∀ (l:List CondT),(∀ x∈l,jn ms x=true∨(x.is=1∧Sta ks ms x.clause.toNat))→∃ n,∀ x∈l,jn ms x=true∨(x.is=1∧kT ks ms n x.clause.toNat)
  | [],_=>⟨0,fun x hx=>by cases hx⟩
  | y::l,h=>by
    obtain ⟨n,hn⟩:=zck l (fun x hx=>h x (List.mem_cons_of_mem _ hx))
    rcases h y (List.mem_cons_self ..) with h1 | ⟨h1,d,h2⟩
    · refine ⟨n,fun x hx => ?_⟩
      rcases List.mem_cons.1 hx with rfl | hx
      · exact .inl h1
      · exact hn x hx
    · refine ⟨n+d,fun x hx => ?_⟩
      rcases List.mem_cons.1 hx with rfl | hx
      · exact .inr ⟨h1,by rw [Nat.add_comm];exact VZ h2 n⟩
      · exact (hn x hx).imp id fun h=>⟨h.1,VZ h.2 d⟩
theorem Vm {ms:List MarkT} {x:CondT} {m:MarkT} (hx:ze ms x.clause=some m) (h1:m.status=1):jn ms x=(x.is == 1):=by
  simp only [jn,hx,h1]
  cases (x.is == 1)<;>cases (x.is == 2)<;>cases (x.is == 3)<;>cases (x.is == 4)<;>rfl
theorem ze8 {ms:List MarkT} {x:CondT} {m:MarkT} (hx:ze ms x.clause=some m) (h1:m.status=0):jn ms x=false:=by
  simp only [jn,hx,h1]
  cases (x.is == 1)<;>cases (x.is == 2)<;>cases (x.is == 3)<;>cases (x.is == 4)<;>rfl
structure StartP (c:ContractT) (hs:List Int) (ms r:List MarkT):Prop where
  ok:MOk c r
  nr:NR c r
  rel:StR c ms r
  same:NR c ms→r=ms
  sta:zjH c hs ms r
theorem zdu {ks:List ClauseT} {ms:List MarkT} {i:Nat} {m:MarkT} (h:Sta ks ms i) (hm:ms[i]?=some m):m.status=0:=by
  obtain ⟨n,h⟩:=h
  cases n with
  | zero=>exact h.elim
  | succ n=>obtain ⟨k,m',_,h2,h3,_⟩:=h;rw [hm] at h2;cases h2;exact h3
theorem ze9 {c:ContractT} {hs:List Int} {ms r:List MarkT} (hl:ms.length=c.clauses.length) (hr:r.length=c.clauses.length) (hI:za2 c hs ms r) {i:Nat} {k:ClauseT} (hk:c.clauses[i]?=some k) (hcd:∀ x∈k.start,0≤x.clause∧x.clause < c.clauses.length) (hy:je c.clauses r i=true):Sta c.clauses ms i:=by
  have hi:=(List.getElem?_eq_some_iff.1 hk).1
  have hm:=List.getElem?_eq_getElem (show i < ms.length by omega)
  have hmr:=List.getElem?_eq_getElem (show i < r.length by omega)
  simp only [je,hk,hmr,Bool.and_eq_true,Bool.not_eq_true',beq_iff_eq,List.all_eq_true] at hy
  obtain ⟨⟨h0,hw⟩,hc⟩:=hy
  rcases hI i k _ hk hm with h | ⟨h,_⟩
  · rw [hmr] at h
    have e:=Option.some.inj h
    obtain ⟨n,hn⟩:=zck (ks:=c.clauses) (ms:=ms) k.start (fun x hx=>by
      obtain ⟨x0,x1⟩:=hcd x hx
      have hxi:=qU (l:=ms) (n:=x.clause) x0 (by omega)
      obtain ⟨a1,a2⟩:=hxi
      obtain ⟨b1,b2⟩:=qU (l:=r) (n:=x.clause) x0 (by omega)
      have hkx:=List.getElem?_eq_getElem (show x.clause.toNat < c.clauses.length by omega)
      have hx':=hc x hx
      rcases hI x.clause.toNat _ _ hkx (List.getElem?_eq_getElem a1) with h2 | ⟨h2,h3⟩
      · left
        rw [List.getElem?_eq_getElem b1] at h2
        simp only [jn,b2,Option.some.inj h2] at hx'
        simp only [jn,a2];exact hx'
      · right
        rw [List.getElem?_eq_getElem b1] at h3
        rw [Vm b2 (by rw [Option.some.inj h3];rfl)] at hx'
        exact ⟨beq_iff_eq.1 hx',h2⟩)
    exact ⟨n+1,k,_,hk,hm,by rw [←e];exact h0,hw,hn⟩
  · exact h
theorem zhZ {c:ContractT} {hs:List Int} {ms r:List MarkT} (hl:ms.length=c.clauses.length) (hr:r.length=c.clauses.length) (hI:za2 c hs ms r) (hn:NR c r) (hcd:∀ (i:Nat) (k:ClauseT),c.clauses[i]?=some k→∀ x∈k.start,0≤x.clause∧x.clause < c.clauses.length):zjH c hs ms r:=by
  have key:∀ (n i:Nat) (k:ClauseT),kT c.clauses ms n i→c.clauses[i]?=some k→r[i]?=some (xV k (Zt hs k)):=by
    intro n
    induction n with
    | zero=>intro i k h;exact h.elim
    | succ n ih=>
      intro i k h hk
      have hi:=(List.getElem?_eq_some_iff.1 hk).1
      obtain ⟨k',m,h1,h2,h3,h4,h5⟩:=h
      rw [hk] at h1
      cases h1
      rcases hI i k m hk h2 with h | ⟨_,h⟩
      · exfalso
        have:=hn i hi
        have hy:je c.clauses r i=true:=by
          simp only [je,hk,h,h3,h4,beq_self_eq_true,Bool.not_false,Bool.and_true,Bool.true_and,List.all_eq_true]
          intro x hx
          obtain ⟨x0,x1⟩:=hcd i k hk x hx
          obtain ⟨a1,a2⟩:=qU (l:=ms) (n:=x.clause) x0 (by omega)
          obtain ⟨b1,b2⟩:=qU (l:=r) (n:=x.clause) x0 (by omega)
          have hkx:=List.getElem?_eq_getElem (show x.clause.toNat < c.clauses.length by omega)
          rcases h5 x hx with h6 | ⟨h6,h7⟩
          · rcases hI x.clause.toNat _ _ hkx (List.getElem?_eq_getElem a1) with g | ⟨g,g2⟩
            · rw [List.getElem?_eq_getElem b1] at g
              simp only [jn,a2] at h6
              simp only [jn,b2,Option.some.inj g];exact h6
            · rw [ze8 a2 (zdu g (List.getElem?_eq_getElem a1))] at h6;cases h6
          · have g:=ih _ _ h7 hkx
            rw [List.getElem?_eq_getElem b1] at g
            rw [Vm b2 (by rw [Option.some.inj g];rfl),h6];rfl
        rw [hy] at this;cases this
      · exact h
  intro i k m hk hm
  by_cases hs':Sta c.clauses ms i
  · obtain ⟨n,h⟩:=hs'
    exact .inr ⟨⟨n,h⟩,key n i k h hk⟩
  · rcases hI i k m hk hm with h | ⟨h,_⟩
    · exact .inl ⟨hs',h⟩
    · exact absurd h hs'
theorem zfa {ms:List MarkT} {i:Nat} {m m':MarkT} (h:ms[i]?=some m) (h0:m.status=0) (h1:m'.status≠0):yb (ms.set i m') < yb ms:=by
  obtain ⟨hi,rfl⟩:=List.getElem?_eq_some_iff.1 h
  unfold yb
  rw [List.countP_set hi]
  have hp:0 < ms.countP (fun m=>m.status == 0):=List.countP_pos_iff.2 ⟨_,List.getElem_mem hi,by simp [h0]⟩
  simp only [h0,beq_self_eq_true,if_true,beq_iff_eq,h1,if_false]
  omega
noncomputable def yG (c:ContractT) (day:Int) (hs:List Int) (us:List Bool) (ms:List MarkT):Option (List MarkT):=wt c day hs hs.length us us.length ms ms.length
theorem QH (n:Nat):eqN n n=some ⟨rfl⟩:=by unfold eqN;rw [dif_pos rfl]
theorem yH {a b:Nat} (h:a=b):eqN a b=some ⟨h⟩:=by unfold eqN;rw [dif_pos h]
theorem YY (c:ContractT) (day:Int) (hs:List Int) (us:List Bool) (ms:List MarkT) (ho:c.off.length < 4611686018427387904) (hv:(zZ c).1=0) (hh:hs.length=c.holders.length) (hb:∀ h∈hs,0≤h∧h < c.parties) (hm:MOk c ms) :
    Ret (yG c day hs us ms) (StartP c hs ms):=by
  have sm:=qu ho hv
  have hcl:=sm.clauses
  unfold yG wt
  refine Ret.bind (P:=fun r=>StartP c hs ms r) (Ret.iter (fun s=>MOk c s.2∧StR c ms s.2∧(NR c ms→s.2=ms)∧za2 c hs ms s.2∧(s.1=false→NR c s.2)) (fun s=>2*yb s.2+(if s.1 then 1 else 0)) ⟨hm,fun i m m' h1 h2=>.inl (by simp only at h2;rw [h1] at h2;exact (Option.some.inj h2).symm),fun _=>rfl,fun i k m h1 h2=>.inl h2,fun h=>by cases h⟩ ?_) (fun r hr=>Ret.some hr)
  have hl0:=hm.1
  have hcd:∀ (i:Nat) (k:ClauseT),c.clauses[i]?=some k→∀ x∈k.start,0≤x.clause∧x.clause < c.clauses.length:=fun i k hk=>(ww ho hv hk).cond
  rintro ⟨b,ms1⟩ ⟨hok,hrel,hsame,hsta,hnr⟩
  cases b with
  | false=>exact Ret.some ⟨hok,hnr rfl,hrel,hsame,zhZ hl0 hok.1 hsta (hnr rfl) hcd⟩
  | true=>
    simp only [cond_true]
    refine Ret.bind (P:=fun o=>∃ s2:Bool×List MarkT,o=.inl s2∧MOk c s2.2∧StR c ms s2.2∧(NR c ms1→s2.2=ms1)∧za2 c hs ms s2.2∧(s2.1=false→s2.2=ms1∧NR c ms1)∧(s2.1=true→yb s2.2 < yb ms1))
      (Ret.forL (n:=c.clauses.length) (fun i s=>MOk c s.2∧StR c ms s.2∧(NR c ms1→s.2=ms1)∧za2 c hs ms s.2∧(s.1=false→s.2=ms1∧∀ j,j < i→je c.clauses ms1 j=false)∧(s.1=true→yb s.2 < yb ms1)) (by omega) ⟨hok,hrel,fun _=>rfl,hsta,fun _=>⟨rfl,fun j hj=>by omega⟩,fun h=>by cases h⟩ ?_ (fun s h=>⟨s,rfl,h⟩)) ?_
    · rintro i ⟨b0,ms2⟩ hi ⟨ok2,rel2,same2,sta2,nr2,lt2⟩
      simp only at ok2 rel2 same2 sta2 nr2 lt2
      have hk:=List.getElem?_eq_getElem hi
      have hl2:=ok2.1
      have hi2:i < ms2.length:=by omega
      have hm2:=List.getElem?_eq_getElem hi2
      have kv:=ww ho hv hk
      have hmk:=ok2.2 i _ _ hk hm2
      rw [zJ hk]
      simp only [Option.bind_some,QH,yH (show ms.length=ms2.length by omega)]
      rw [zcj c _ i _ _ hk hm2 (by have:=kv.start;omega) (fun x hx=>by have:=kv.cond x hx;simp only;omega)]
      simp only [Option.bind_some]
      cases hr:je c.clauses ms2 i with
      | false=>
        simp only [cond_false,Option.bind_some]
        refine Ret.some ⟨ok2,rel2,same2,sta2,fun hb=>⟨(nr2 hb).1,fun j hj => ?_⟩,lt2⟩
        rcases Nat.lt_or_ge j i with h | h
        · exact (nr2 hb).2 j h
        · obtain rfl:j=i:=by omega
          rw [←(nr2 hb).1];exact hr
      | true=>
        simp only [cond_true]
        have hr':=hr
        simp only [je,hk,hm2,Bool.and_eq_true,Bool.not_eq_true',beq_iff_eq] at hr'
        obtain ⟨⟨h0,hw⟩,_⟩:=hr'
        have hbear:Ret (bif (c.clauses[i].kind == 4) then some (-1) else (Option.bind (zh hs.length c.clauses[i].role) fun k1=>(Option.bind (hs[k1]?) fun e2=>some e2))) (fun v=>v=Zt hs c.clauses[i]∧bif c.clauses[i].kind == 4 then v = -1 else 0≤v∧v < c.parties):=by
          refine Ret.ite (fun h4=>Ret.some (by simp [h4,Zt])) (fun h4 => ?_)
          have h4':c.clauses[i].kind≠4:=beq_eq_false_iff_ne.1 h4
          have hro:=kv.role.resolve_left h4'
          rw [zcd hro.1 (by omega)]
          have hlt:c.clauses[i].role.toNat < hs.length:=by omega
          simp only [Option.bind_some,List.getElem?_eq_getElem hlt]
          exact Ret.some ⟨by simp [Zt,h4,List.getElem?_eq_getElem hlt],by rw [h4];exact hb _ (List.getElem_mem hlt)⟩
        refine Ret.bind (P:=fun v:Bool×List MarkT=>∃ b,v=(true,ms2.set i (xV c.clauses[i] b))∧b=Zt hs c.clauses[i]∧(bif c.clauses[i].kind == 4 then b = -1 else 0≤b∧b < c.parties)) (Ret.bind hbear fun v hv' => ?_) ?_
        · rw [zL (show i < ms.length by omega)]
          simp only [Option.bind_some,hm2]
          exact Ret.some ⟨v,rfl,hv'⟩
        · rintro _ ⟨b,rfl,hbe,hbv⟩
          have hnew:jh c.parties c.clauses[i] (xV c.clauses[i] b)=true:=by
            simp only [jh,xV,kR,hw]
            have h1:=kv.after
            have:¬ c.clauses[i].after < 1:=by omega
            cases h4:(c.clauses[i].kind == 4) with
            | true=>rw [h4] at hbv;simp only [cond_true] at hbv;subst hbv;simp [this]
            | false=>rw [h4] at hbv;simp only [cond_false] at hbv;simp [this,hbv]
          refine Ret.some ⟨⟨by simpa using hl2,fun j k m hj hmj => ?_⟩,fun j m m' h1 h2 => ?_,fun hn => ?_,fun j k m hj hmj => ?_,fun h=>by simp at h,fun _ => ?_⟩
          · rw [List.getElem?_set] at hmj
            by_cases hij:i=j
            · subst hij
              rw [if_pos rfl,if_pos hi2] at hmj
              rw [hk] at hj
              cases hj;cases hmj;exact hnew
            · rw [if_neg hij] at hmj;exact ok2.2 j k m hj hmj
          · simp only at h2
            rw [List.getElem?_set] at h2
            by_cases hij:i=j
            · subst hij
              rw [if_pos rfl,if_pos hi2] at h2
              cases h2
              refine .inr ⟨?_,_,b,hk,rfl⟩
              rcases rel2 i m _ h1 hm2 with h | ⟨h,_⟩
              · rw [←h];exact h0
              · exact h
            · rw [if_neg hij] at h2;exact rel2 j m m' h1 h2
          · have e:=same2 hn
            have:=hn i hi
            rw [←e,hr] at this
            cases this
          · show (ms2.set i (xV c.clauses[i] b))[j]?=some m∨Sta c.clauses ms j∧(ms2.set i (xV c.clauses[i] b))[j]?=some (xV k (Zt hs k))
            rw [List.getElem?_set]
            by_cases hij:i=j
            · subst hij
              rw [if_pos rfl,if_pos hi2]
              rw [hk] at hj
              cases hj
              exact .inr ⟨ze9 hl0 hl2 sta2 hk (hcd _ _ hk) hr,by rw [hbe]⟩
            · rw [if_neg hij];exact sta2 j k m hj hmj
          · have h3:=zfa (m':=xV c.clauses[i] b) hm2 h0 (by simp [xV])
            show yb (ms2.set i (xV c.clauses[i] b)) < yb ms1
            cases b0 with
            | true=>have:=lt2 rfl;omega
            | false=>have e:=(nr2 rfl).1;subst e;exact h3
    · rintro _ ⟨⟨b2,ms2⟩,rfl,ok2,rel2,same2,sta2,nr2,lt2⟩
      simp only at ok2 rel2 same2 sta2 nr2 lt2
      simp only [Sum.elim_inl]
      refine Ret.some ⟨⟨ok2,rel2,fun hn => ?_,sta2,fun hb2 => ?_⟩,?_⟩
      · have e:=hsame hn
        simp only at e
        subst e
        exact same2 hn
      · obtain ⟨e1,e2⟩:=nr2 hb2
        simp only;rw [e1];exact e2
      · simp only
        cases b2 with
        | true=>have:=lt2 rfl;simp;omega
        | false=>have:=(nr2 rfl).1;subst this;simp
def qY (m:MarkT):Bool:=m.status == 1||m.status == 2
theorem Zu (m:MarkT):jr m=some (qY m):=by
  simp only [jr,zo,Option.bind_some,qY];cases (m.status == 1)<;>rfl
def kU (st:Int) (m:MarkT):MarkT:={m with status:=st,left:=0,paused:=false}
def yc (free:Bool) (k:ClauseT) (m:MarkT):MarkT:=
  bif qY m then (bif m.paused||(k.business&&free) then m else
    bif m.left - 1 == 0 then (bif k.kind == 1 then (bif m.status == 1&&decide (0 < k.grace) then {m with status:=2,left:=k.grace} else kU 4 m) else bif k.kind == 2 then kU 3 m else kU 5 m)
    else {m with left:=m.left - 1}) else m
def atK (c:ContractT) (F:ClauseT→MarkT→MarkT) (i:Nat) (m:MarkT):MarkT:=match c.clauses[i]? with | some k=>F k m | none=>m
structure RunV (c:ContractT) (k:ClauseT) (m:MarkT):Prop where
  waived:k.waived=false
  left:1≤m.left∧m.left≤400
  paused:m.paused=true→k.pause ≠ -1
  got:m.got=0∨(k.kind=1∧0≤m.got∧m.got < k.need)
  bearer:(k.kind=4∧m.bearer = -1)∨(k.kind≠4∧0≤m.bearer∧m.bearer < c.parties)
theorem ji {p:Int} {k:ClauseT} {m:MarkT}:kR p k m=true↔k.waived=false∧1≤m.left∧(m.paused=true→k.pause ≠ -1)∧(m.got=0∨(k.kind=1∧0≤m.got∧m.got < k.need))∧((k.kind=4∧m.bearer = -1)∨(k.kind≠4∧0≤m.bearer∧m.bearer < p)):=by
  simp only [kR,Bool.and_eq_true,Bool.not_eq_true',Bool.or_eq_false_iff,decide_eq_false_iff_not,Bool.or_eq_true,beq_iff_eq]
  have e1:(m.paused&&k.pause == -1)=false↔(m.paused=true→k.pause ≠ -1):=by cases m.paused<;>simp
  have e2:(bif k.kind == 4 then m.bearer == -1 else decide (0≤m.bearer)&&decide (m.bearer < p))=true↔((k.kind=4∧m.bearer = -1)∨(k.kind≠4∧0≤m.bearer∧m.bearer < p)):=by
    cases h:(k.kind == 4) with
    | true=>have:=beq_iff_eq.1 h;simp [this]
    | false=>have:=beq_eq_false_iff_ne.1 h;simp [this]
  rw [e1,e2]
  constructor
  · rintro ⟨⟨a,b,d⟩,e,f⟩;exact ⟨a,by omega,d,by omega,f⟩
  · rintro ⟨a,b,d,e,f⟩;exact ⟨⟨a,by omega,d⟩,by omega,f⟩
theorem vG {p:Int} {k:ClauseT} {m:MarkT}:jh p k m=true↔(m.status=0∧k.waived=false∧KF m=true)∨(m.status=1∧m.left≤k.after∧kR p k m=true)∨(m.status=2∧k.kind=1∧m.left≤k.grace∧kR p k m=true)∨((m.status=3∨m.status=4∨m.status=5)∧zdr p m=true):=by
  unfold jh
  by_cases h0:m.status=0
  · simp [h0]
  by_cases h1:m.status=1
  · simp [h1]
  by_cases h2:m.status=2
  · simp [h2]
  have e0:(m.status == 0)=false:=beq_eq_false_iff_ne.2 h0
  have e1:(m.status == 1)=false:=beq_eq_false_iff_ne.2 h1
  have e2:(m.status == 2)=false:=beq_eq_false_iff_ne.2 h2
  simp [e0,e1,e2,h0,h1,h2]
theorem xW {c:ContractT} {i:Nat} {k:ClauseT} {m:MarkT} (kv:KV c i k) (h:jh c.parties k m=true) (hr:qY m=true):RunV c k m∧kR c.parties k m=true∧(m.status=1∧m.left≤k.after∨m.status=2∧k.kind=1∧m.left≤k.grace):=by
  simp only [qY,Bool.or_eq_true,beq_iff_eq] at hr
  have ha:=kv.after
  have hg:=kv.grace
  rcases vG.1 h with ⟨h0,_⟩ | ⟨h0,h1,h2⟩ | ⟨h0,h1,h2,h3⟩ | ⟨h0,_⟩
  · omega
  · obtain ⟨a,b,d,e,f⟩:=ji.1 h2
    exact ⟨⟨a,⟨b,by omega⟩,d,e,f⟩,h2,.inl ⟨h0,h1⟩⟩
  · obtain ⟨a,b,d,e,f⟩:=ji.1 h3
    exact ⟨⟨a,⟨b,by omega⟩,d,e,f⟩,h3,.inr ⟨h0,h1,h2⟩⟩
  · omega
theorem Z2 {c:ContractT} {i:Nat} {k:ClauseT} {m:MarkT} {st:Int} (kv:KV c i k) (rv:RunV c k m) (hp:0 < c.parties) (hst:st=3∨st=4∨st=5):jh c.parties k (kU st m)=true:=by
  refine vG.2 (.inr (.inr (.inr ⟨hst,?_⟩)))
  have h1:=rv.got
  have h2:=rv.bearer
  have h3:=kv.need
  have e1:decide (0≤m.got)=true:=decide_eq_true (by omega)
  have e2:decide (m.got≤9)=true:=decide_eq_true (by omega)
  have e3:decide (-1≤m.bearer)=true:=decide_eq_true (by omega)
  have e4:decide (m.bearer < c.parties)=true:=decide_eq_true (by omega)
  show ((0:Int) == 0&&(decide (0≤m.got)&&(decide (m.got≤9)&&(decide (-1≤m.bearer)&&(decide (m.bearer < c.parties) && !false)))))=true
  rw [e1,e2,e3,e4];rfl
theorem kj {c:ContractT} {k:ClauseT} {m:MarkT} (h:(m.status=1∧m.left≤k.after)∨(m.status=2∧k.kind=1∧m.left≤k.grace)) (hr:kR c.parties k m=true):jh c.parties k m=true:=by
  rcases h with ⟨h0,h1⟩ | ⟨h0,h1,h2⟩
  · exact vG.2 (.inr (.inl ⟨h0,h1,hr⟩))
  · exact vG.2 (.inr (.inr (.inl ⟨h0,h1,h2,hr⟩)))
theorem MOk.mapIdx {c:ContractT} {ms:List MarkT} (F:ClauseT→MarkT→MarkT) (h:MOk c ms) (hF:∀ (i:Nat) (k:ClauseT) (m:MarkT),c.clauses[i]?=some k→jh c.parties k m=true→jh c.parties k (F k m)=true):MOk c (ms.mapIdx (atK c F)):=by
  refine ⟨by simpa using h.1,fun i k m hk hm => ?_⟩
  rw [List.getElem?_mapIdx] at hm
  obtain ⟨m0,h0,rfl⟩:=Option.map_eq_some_iff.1 hm
  simp only [atK,hk]
  exact hF i k m0 hk (h.2 i k m0 hk h0)
theorem zgv {c:ContractT} {i:Nat} {k:ClauseT} {m:MarkT} (free:Bool) (kv:KV c i k) (hp:0 < c.parties) (h:jh c.parties k m=true):jh c.parties k (yc free k m)=true:=by
  unfold yc
  cases hr:qY m with
  | false=>exact h
  | true=>
    obtain ⟨rv,hb,hs⟩:=xW kv h hr
    simp only [cond_true]
    cases hp1:(m.paused||(k.business&&free)) with
    | true=>exact h
    | false=>
      simp only [cond_false]
      have hl:=rv.left
      obtain ⟨b1,b2,b3,b4,b5⟩:=ji.1 hb
      cases hz:(m.left - 1 == 0) with
      | false=>
        have:=beq_eq_false_iff_ne.1 hz
        refine kj ?_ (ji.2 ⟨b1,?_,b3,b4,b5⟩)
        · simp only [cond_false];omega
        · simp only [cond_false];omega
      | true=>
        simp only [cond_true]
        cases h1:(k.kind == 1) with
        | false=>
          cases h2:(k.kind == 2) with
          | true=>exact Z2 kv rv hp (by omega)
          | false=>exact Z2 kv rv hp (by omega)
        | true=>
          simp only [cond_true]
          cases h3:(m.status == 1&&decide (0 < k.grace)) with
          | false=>exact Z2 kv rv hp (by omega)
          | true=>
            simp only [Bool.and_eq_true,beq_iff_eq,decide_eq_true_eq] at h3
            exact kj (.inr ⟨rfl,beq_iff_eq.1 h1,Int.le_refl _⟩) (ji.2 ⟨b1,by simp only [cond_true];omega,b3,b4,b5⟩)
theorem jM {α:Type} {s:List α} {i:Nat} {m:α} (h:s[i]?=some m):s.set i m=s:=by
  obtain ⟨hi,rfl⟩:=List.getElem?_eq_some_iff.1 h
  exact List.set_getElem_self hi
theorem vH {α:Type} {s:List α} {i:Nat} {m x:α} (h:s[i]?=some m):(s.set i x)[i]?=some x:=by
  have:=(List.getElem?_eq_some_iff.1 h).1
  simp [this]
theorem Xk (i:Nat) (st:Int) (c:ContractT) (p4:Int) (p5:List Int) (p6:Nat) (p7:List Bool) (p8:Nat) (ms:List MarkT) (n:Nat) (m:MarkT) (hi:i < n) (hm:ms[i]?=some m):xU i st c p4 p5 p6 p7 p8 ms n=some (ms.set i (kU st m)):=by
  unfold xU
  simp only [zL hi,Option.bind_some,hm,List.set_set,kU]
theorem zh0 (c:ContractT) (day:Int) (hs:List Int) (us:List Bool) (ms:List MarkT) (ho:c.off.length < 4611686018427387904) (hv:(zZ c).1=0) (hm:MOk c ms) (hday:0≤day∧day≤2000) :
    d_70a c day hs hs.length us us.length ms ms.length=yG c (day+1) hs us (ms.mapIdx (atK c (yc (jm c.off day).isSome))):=by
  have sm:=qu ho hv
  have hcl:=sm.clauses
  have hl:=hm.1
  unfold d_70a
  obtain ⟨r,hr,_⟩:=Z0 c.off day (zjG ho hv) ho
  rw [hr]
  simp only [Option.bind_some,xc]
  rw [ya ms (atK c (yc (jm c.off day).isSome)) (by omega) ?_]
  · simp only [Option.bind_some,Sum.elim_inl]
    rw [qx (by omega) (by omega)]
    unfold yG
    rw [List.length_mapIdx]
    generalize wt _ _ _ _ _ _ _ _=x
    cases x<;>rfl
  · intro i m s h1 h2 h3
    have hi:i < ms.length:=(List.getElem?_eq_some_iff.1 h1).1
    have hic:i < c.clauses.length:=by omega
    have hk:=List.getElem?_eq_getElem hic
    have kv:=ww ho hv hk
    have hmk:=hm.2 i _ _ hk h1
    simp only [zL hi,Option.bind_some,h3,Zu,atK,hk]
    generalize c.clauses[i]=k at hk kv hmk
    cases hrn:qY m with
    | false=>simp only [cond_false,Option.bind_some,yc,hrn,jM h3]
    | true=>
      obtain ⟨rv,hb,hst⟩:=xW kv hmk hrn
      have hleft:=rv.left
      simp only [cond_true,zJ hk,Option.bind_some,yc,hrn,zo]
      have epb:(bif m.paused then true else bif k.business then (jm c.off day).isSome else false)=(m.paused||(k.business&&(jm c.off day).isSome)):=by cases m.paused<;>cases k.business<;>rfl
      rw [epb]
      cases hp1:(m.paused||(k.business&&(jm c.off day).isSome)) with
      | true=>simp only [cond_true,Option.bind_some,Bool.not_true,cond_false,jM h3]
      | false=>
        rw [qx (show -9223372036854775808≤m.left - 1 by omega) (by omega)]
        simp only [cond_false,Option.bind_some,vH h3]
        cases hz:(m.left - 1 == 0) with
        | false=>simp only [cond_false,Option.bind_some,Bool.not_true]
        | true=>
          have hz':=beq_iff_eq.1 hz
          have hk0:(k.kind == 0)=false:=beq_eq_false_iff_ne.2 (by have:=kv.kind;omega)
          simp only [cond_true,hk0,cond_false,W4,wu,Zp,zL hi,Option.bind_some,vH h3,zJ hk,zo]
          rw [Xk i 4 _ _ _ _ _ _ _ _ _ hi (vH h3),Xk i 3 _ _ _ _ _ _ _ _ _ hi (vH h3),Xk i 5 _ _ _ _ _ _ _ _ _ hi (vH h3)]
          simp only [Option.bind_some,List.set_set,kU,hz']
          cases h1:(k.kind == 1) with
          | true=>
            simp only [cond_true]
            have e3:(bif m.status == 1 then decide (0 < k.grace) else false)=(m.status == 1&&decide (0 < k.grace)):=by cases (m.status == 1)<;>rfl
            rw [e3]
            cases h4:(m.status == 1&&decide (0 < k.grace))<;>simp
          | false=>
            cases h2:(k.kind == 2) with
            | true=>simp
            | false=>
              cases h3:(k.kind == 3) with
              | true=>simp
              | false=>
                have h4:(k.kind == 4)=true:=beq_iff_eq.2 (by have:=kv.kind;have:=beq_eq_false_iff_ne.1 h1;have:=beq_eq_false_iff_ne.1 h2;have:=beq_eq_false_iff_ne.1 h3;omega)
                simp [h4]
def wY (act:Int) (k:ClauseT) (m:MarkT):MarkT:=
  bif qY m then (bif act == k.pause then {m with paused:=true} else bif act == k.resume then {m with paused:=false} else m) else m
def KG (k:ClauseT) (m:MarkT):MarkT:=bif m.got+1 == k.need then kU 3 {m with got:=m.got+1} else {m with got:=m.got+1}
def zdv (k:ClauseT) (m:MarkT):MarkT:=bif k.kind == 1 then KG k m else bif k.kind == 2 then (bif m.paused then m else kU 4 m) else kU 3 m
def kV (act by_:Int) (k:ClauseT) (m:MarkT):MarkT:=bif qY m then (bif k.act == act&&(k.kind == 4||m.bearer == by_) then zdv k m else m) else m
def yW (a:ActT) (k:ClauseT) (m:MarkT):MarkT:=bif qY m then (bif !(k.kind == 4)&&k.role == a.give then {m with bearer:=a.to} else m) else m
def xz (hs:List Int) (a:ActT):Int:=bif a.role == -1 then -1 else hs[a.role.toNat]?.getD 0
theorem zjI (c:ContractT) (s:StateT) (i:Nat) (a:ActT) (ha:c.acts[i]?=some a) (h:a.role = -1∨(0≤a.role∧a.role < s.holders.length)):ZV c s i=some (xz s.holders a):=by
  unfold ZV xz
  simp only [zJ ha,Option.bind_some]
  cases hr:(a.role == -1) with
  | true=>rfl
  | false=>
    have h1:=beq_eq_false_iff_ne.1 hr
    obtain ⟨h2,h3⟩:=qU (l:=s.holders) (n:=a.role) (by omega) (by omega)
    simp only [cond_false,h3,Option.bind_some,List.getElem?_eq_getElem h2,Option.getD_some]
theorem zfb {c:ContractT} {i:Nat} {k:ClauseT} {m:MarkT} {act:Int} (ha:0≤act) (kv:KV c i k) (h:jh c.parties k m=true):jh c.parties k (wY act k m)=true:=by
  unfold wY
  cases hr:qY m with
  | false=>exact h
  | true=>
    obtain ⟨rv,hb,hs⟩:=xW kv h hr
    obtain ⟨b1,b2,b3,b4,b5⟩:=ji.1 hb
    simp only [cond_true]
    cases h1:(act == k.pause) with
    | true=>exact kj hs (ji.2 ⟨b1,b2,fun _=>by have:=beq_iff_eq.1 h1;omega,b4,b5⟩)
    | false=>
      cases h2:(act == k.resume) with
      | true=>exact kj hs (ji.2 ⟨b1,b2,fun h=>absurd (show false=true from h) (by decide),b4,b5⟩)
      | false=>exact h
theorem zh1 {c:ContractT} {i:Nat} {k:ClauseT} {m:MarkT} {act by_:Int} (hp:0 < c.parties) (kv:KV c i k) (h:jh c.parties k m=true):jh c.parties k (kV act by_ k m)=true:=by
  unfold kV
  cases hr:qY m with
  | false=>exact h
  | true=>
    obtain ⟨rv,hb,hs⟩:=xW kv h hr
    obtain ⟨b1,b2,b3,b4,b5⟩:=ji.1 hb
    simp only [cond_true]
    cases h1:(k.act == act&&(k.kind == 4||m.bearer == by_)) with
    | false=>exact h
    | true=>
      simp only [cond_true,zdv]
      have hn:=kv.need
      cases h2:(k.kind == 1) with
      | true=>
        have hk:=beq_iff_eq.1 h2
        simp only [cond_true,KG]
        cases h3:(m.got+1 == k.need) with
        | true=>
          have h3':=beq_iff_eq.1 h3
          refine vG.2 (.inr (.inr (.inr ⟨.inl rfl,?_⟩)))
          have e1:decide (0≤m.got+1)=true:=decide_eq_true (by omega)
          have e2:decide (m.got+1≤9)=true:=decide_eq_true (by omega)
          have e3:decide (-1≤m.bearer)=true:=decide_eq_true (by omega)
          have e4:decide (m.bearer < c.parties)=true:=decide_eq_true (by omega)
          show ((0:Int) == 0&&(decide (0≤m.got+1)&&(decide (m.got+1≤9)&&(decide (-1≤m.bearer)&&(decide (m.bearer < c.parties) && !false)))))=true
          rw [e1,e2,e3,e4];rfl
        | false=>
          have h3':=beq_eq_false_iff_ne.1 h3
          refine kj hs (ji.2 ⟨b1,b2,b3,.inr ⟨hk,?_,?_⟩,b5⟩)
          · show 0≤m.got+1;omega
          · show m.got+1 < k.need;omega
      | false=>
        simp only [cond_false]
        cases h3:(k.kind == 2) with
        | true=>
          simp only [cond_true]
          cases m.paused with
          | true=>exact h
          | false=>exact Z2 kv rv hp (by omega)
        | false=>exact Z2 kv rv hp (by omega)
theorem zgw {c:ContractT} {i:Nat} {k:ClauseT} {m:MarkT} {a:ActT} (kv:KV c i k) (ht:0≤a.to∧a.to < c.parties) (h:jh c.parties k m=true):jh c.parties k (yW a k m)=true:=by
  unfold yW
  cases hr:qY m with
  | false=>exact h
  | true=>
    obtain ⟨rv,hb,hs⟩:=xW kv h hr
    obtain ⟨b1,b2,b3,b4,b5⟩:=ji.1 hb
    simp only [cond_true]
    cases h1:(!(k.kind == 4)&&k.role == a.give) with
    | false=>exact h
    | true=>
      simp only [Bool.and_eq_true,Bool.not_eq_true',beq_eq_false_iff_ne] at h1
      exact kj hs (ji.2 ⟨b1,b2,b3,b4,.inr ⟨h1.1,ht.1,ht.2⟩⟩)
def ms1 (c:ContractT) (act:Int) (ms:List MarkT):List MarkT:=ms.mapIdx (atK c (wY act))
def ms2 (c:ContractT) (act:Int) (a:ActT) (hs:List Int) (ms:List MarkT):List MarkT:=(ms1 c act ms).mapIdx (atK c (kV act (xz hs a)))
def ms3 (c:ContractT) (act:Int) (a:ActT) (hs:List Int) (ms:List MarkT):List MarkT:=bif a.kind == 3 then (ms2 c act a hs ms).mapIdx (atK c (yW a)) else ms2 c act a hs ms
def hs3 (a:ActT) (hs:List Int):List Int:=bif a.kind == 1 then hs else hs.set a.give.toNat a.to
def us3 (i:Nat) (a:ActT) (us:List Bool):List Bool:=bif a.kind == 1 then us else us.set i true
theorem zfc {c:ContractT} {act:Int} {ms:List MarkT} (ho:c.off.length < 4611686018427387904) (hv:(zZ c).1=0) (ha:0≤act) (hm:MOk c ms):MOk c (ms1 c act ms):=
  hm.mapIdx _ fun i k m hk h=>zfb ha (ww ho hv hk) h
theorem za3 {c:ContractT} {act:Int} {a:ActT} {hs:List Int} {ms:List MarkT} (ho:c.off.length < 4611686018427387904) (hv:(zZ c).1=0) (ha:0≤act) (hm:MOk c ms):MOk c (ms2 c act a hs ms):=
  (zfc ho hv ha hm).mapIdx _ fun i k m hk h=>zh1 (by have:=(qu ho hv).parties;omega) (ww ho hv hk) h
theorem zjJ {c:ContractT} {act:Int} {a:ActT} {hs:List Int} {ms:List MarkT} (ho:c.off.length < 4611686018427387904) (hv:(zZ c).1=0) (ha:0≤act) (av:AV2 c a) (hm:MOk c ms):MOk c (ms3 c act a hs ms):=by
  unfold ms3
  cases h3:(a.kind == 3) with
  | false=>exact za3 ho hv ha hm
  | true=>
    refine (za3 ho hv ha hm).mapIdx _ fun i k m hk h=>zgw (ww ho hv hk) ?_ h
    have:=beq_iff_eq.1 h3
    have:=av.kind
    omega
theorem zjK (c:ContractT) (day:Int) (hs:List Int) (us:List Bool) (ms:List MarkT) (i:Nat) (a:ActT) (ho:c.off.length < 4611686018427387904) (hv:(zZ c).1=0) (hh:hs.length=c.holders.length) (hu:us.length=c.acts.length)
    (ha:c.acts[i]?=some a) (hm:MOk c ms) :
    QE i c day hs hs.length us us.length ms ms.length=(bif !(a.kind == 1)&&us[i]?.getD false then some (hs,us,ms) else
      (yG c day (hs3 a hs) (us3 i a us) (ms3 c i a hs ms)).bind fun r=>some (hs3 a hs,us3 i a us,r)):=by
  have sm:=qu ho hv
  have hcl:=sm.clauses
  have hl:=hm.1
  have av:=zdt hv ha
  have hia:i < c.acts.length:=(List.getElem?_eq_some_iff.1 ha).1
  have hiu:i < us.length:=by omega
  unfold QE
  have eU:(bif a.kind == 1 then some false else (Option.bind (zh us.length (i:Int)) fun k1=>(Option.bind (us[k1]?) fun e2=>some e2)))=some (!(a.kind == 1)&&us[i]?.getD false):=by
    simp only [zL hiu,Option.bind_some,List.getElem?_eq_getElem hiu,Option.getD_some]
    cases (a.kind == 1)<;>rfl
  simp only [zJ ha,Option.bind_some]
  rw [eU]
  simp only [Option.bind_some]
  cases hearly:(!(a.kind == 1)&&us[i]?.getD false) with
  | true=>rfl
  | false=>
    simp only [cond_false,xc,Option.bind_some]
    rw [ya ms (atK c (wY i)) (by omega) ?p1]
    case p1=>
      intro j m s h1 h2 h3
      have hj:j < ms.length:=(List.getElem?_eq_some_iff.1 h1).1
      have hk:=List.getElem?_eq_getElem (show j < c.clauses.length by omega)
      simp only [zL hj,Option.bind_some,h3,Zu,atK,hk,wY]
      generalize c.clauses[j]=k at hk
      cases hrn:qY m with
      | false=>simp only [cond_false,Option.bind_some,jM h3]
      | true=>
        simp only [cond_true,zJ hk,Option.bind_some]
        cases ((i:Int) == k.pause) with
        | true=>simp only [cond_true,Option.bind_some,Bool.not_true,cond_false]
        | false=>
          simp only [cond_false]
          cases ((i:Int) == k.resume) with
          | true=>simp only [cond_true,Option.bind_some,Bool.not_true,cond_false]
          | false=>simp only [cond_false,Option.bind_some,Bool.not_true,jM h3]
    simp only [Option.bind_some,Sum.elim_inl]
    show Option.bind (eqN hs.length hs.length) _=_
    simp only [QH,Option.bind_some,yH (show ms.length=(ms.mapIdx (atK c (wY (i:Int)))).length by simp)]
    rw [zjI c _ i a ha (by have:=av.role;simp only;omega)]
    simp only [Option.bind_some]
    have m1ok:=zfc (act:=(i:Int)) ho hv (by omega) hm
    have hlen1:(ms.length:Int)=((ms1 c i ms).length:Int):=by simp [ms1]
    show Option.bind (Option.bind (forR (ms.length:Int) _ (ms1 c i ms)) _) _=_
    rw [hlen1]
    rw [ya (ms1 c i ms) (atK c (kV i (xz hs a))) (by simp [ms1];omega) ?p2]
    case p2=>
      intro j m s h1 h2 h3
      have hj1:j < (ms1 c i ms).length:=(List.getElem?_eq_some_iff.1 h1).1
      have hj:j < ms.length:=by simpa [ms1] using hj1
      have hk:=List.getElem?_eq_getElem (show j < c.clauses.length by omega)
      have kv:=ww ho hv hk
      have hmk:=m1ok.2 j _ _ hk h1
      simp only [zL hj,Option.bind_some,h3,Zu,atK,hk,kV]
      generalize c.clauses[j]=k at hk kv hmk
      cases hrn:qY m with
      | false=>simp only [cond_false,Option.bind_some,jM h3]
      | true=>
        obtain ⟨rv,hb,hst⟩:=xW kv hmk hrn
        simp only [cond_true,zJ hk,Option.bind_some]
        have eT:(bif k.act == (i:Int) then (bif k.kind == 4 then some true else some (m.bearer == xz hs a)) else some false)=some (k.act == (i:Int)&&(k.kind == 4||m.bearer == xz hs a)):=by
          cases (k.act == (i:Int))<;>cases (k.kind == 4)<;>rfl
        rw [eT]
        simp only [Option.bind_some]
        cases (k.act == (i:Int)&&(k.kind == 4||m.bearer == xz hs a)) with
        | false=>simp only [cond_false,Option.bind_some,Bool.not_true,jM h3]
        | true=>
          have hgot:=rv.got
          have hneed:=kv.need
          have hk0:(k.kind == 0)=false:=beq_eq_false_iff_ne.2 (by have:=kv.kind;omega)
          simp only [cond_true,hk0,cond_false,W6,W5,wu,zL hj,Option.bind_some,h3,vH h3,zJ hk,zdv,KG]
          rw [qx (show -9223372036854775808≤m.got+1 by omega) (by omega)]
          rw [Xk j 3 _ _ _ _ _ _ _ _ _ hj h3,Xk j 3 _ _ _ _ _ _ _ _ _ hj (vH h3),Xk j 4 _ _ _ _ _ _ _ _ _ hj h3]
          simp only [Option.bind_some,List.set_set]
          cases e1:(k.kind == 1) with
          | true=>cases (m.got+1 == k.need)<;>simp
          | false=>
            cases e2:(k.kind == 2) with
            | true=>cases m.paused<;>simp [jM h3]
            | false=>
              cases e3:(k.kind == 3) with
              | true=>simp
              | false=>
                have h4:(k.kind == 4)=true:=beq_iff_eq.2 (by have:=kv.kind;have:=beq_eq_false_iff_ne.1 e1;have:=beq_eq_false_iff_ne.1 e2;have:=beq_eq_false_iff_ne.1 e3;omega)
                simp [h4]
    simp only [Option.bind_some,Sum.elim_inl]
    show Option.bind (bif a.kind == 1 then some (hs,us,ms2 c i a hs ms) else _) _=_
    have m2ok:=za3 (act:=(i:Int)) (a:=a) (hs:=hs) ho hv (by omega) hm
    cases h1:(a.kind == 1) with
    | true=>
      have h3:(a.kind == 3)=false:=beq_eq_false_iff_ne.2 (by have:=beq_iff_eq.1 h1;omega)
      simp only [cond_true,Option.bind_some,hs3,us3,ms3,h1,h3,cond_false]
      unfold yG
      rw [show (ms2 c i a hs ms).length=ms.length by simp [ms2,ms1]]
    | false=>
      have hak:=av.kind.resolve_left (beq_eq_false_iff_ne.1 h1)
      have hg:a.give.toNat < hs.length:=by omega
      simp only [cond_false,W7,zJ ha,Option.bind_some]
      rw [zcd (show 0≤a.give by omega) (by omega),zL hiu]
      simp only [Option.bind_some,List.getElem?_eq_getElem hg,List.getElem?_eq_getElem hiu,xc,hs3,us3,ms3,h1,cond_false]
      cases h3:(a.kind == 3) with
      | false=>
        simp only [cond_false,Option.bind_some]
        unfold yG
        rw [show (ms2 c i a hs ms).length=ms.length by simp [ms2,ms1],List.length_set,List.length_set]
        rfl
      | true=>
        simp only [cond_true]
        have hlen2:(ms.length:Int)=((ms2 c i a hs ms).length:Int):=by simp [ms2,ms1]
        rw [hlen2,show List.mapIdx (atK c (kV (i:Int) (xz hs a))) (ms1 c i ms)=ms2 c i a hs ms from rfl]
        rw [ya (ms2 c i a hs ms) (atK c (yW a)) (by simp [ms2,ms1];omega) ?p3]
        case p3=>
          intro j m s h1 h2 h3
          have hj1:j < (ms2 c i a hs ms).length:=(List.getElem?_eq_some_iff.1 h1).1
          have hj:j < ms.length:=by simpa [ms2,ms1] using hj1
          have hk:=List.getElem?_eq_getElem (show j < c.clauses.length by omega)
          simp only [zL hj,Option.bind_some,h3,Zu,atK,hk,yW]
          generalize c.clauses[j]=k at hk
          cases hrn:qY m with
          | false=>simp only [cond_false,Option.bind_some,jM h3]
          | true=>
            simp only [cond_true,zJ hk,Option.bind_some]
            cases (k.kind == 4) with
            | true=>simp only [cond_true,Option.bind_some,Bool.not_true,Bool.false_and,cond_false,jM h3]
            | false=>
              simp only [cond_false,Option.bind_some,Bool.not_false,Bool.true_and]
              cases (k.role == a.give) with
              | true=>simp only [cond_true,Option.bind_some,Bool.not_true,cond_false]
              | false=>simp only [cond_false,Option.bind_some,Bool.not_true,jM h3]
        simp only [Option.bind_some,Sum.elim_inl]
        unfold yG
        rw [show ((ms2 c i a hs ms).mapIdx (atK c (yW a))).length=ms.length by simp [ms2,ms1],List.length_set,List.length_set]
def noS:StateT:={day:=0,holders:=[],used:=[],marks:=[]}
def zgx (c:ContractT) (i:Nat) (a:ActT) (s r:StateT):Prop:=
  (a.kind≠1∧s.used[i]?=some true∧r=s)∨((a.kind=1∨s.used[i]?=some false)∧r.day=s.day∧r.holders=hs3 a s.holders∧r.used=us3 i a s.used∧StartP c (hs3 a s.holders) (ms3 c i a s.holders s.marks) r.marks)
def zhj (c:ContractT) (s r:StateT):Prop:=r.day=s.day+1∧r.holders=s.holders∧r.used=s.used∧StartP c s.holders (s.marks.mapIdx (atK c (yc (jm c.off s.day).isSome))) r.marks
theorem za4 {b n:Nat} (h:n < 1000) (hb:b≤1000):mkN b (n:Int)=some n:=by
  unfold mkN
  have:n*b≤1000*1000:=Nat.mul_le_mul (by omega) hb
  rw [if_pos ⟨by omega,by omega,by omega⟩];simp
theorem X6 {α:Type} {l d:List α} {k:Nat} (h:k=d.length) (h2:l.length=k):xx k d l=some l:=by unfold xx;rw [if_pos ⟨h,h2⟩]
theorem zh2 {α:Type} {l:List α} {i:Nat} {x y:α} (h:y∈l.set i x):y∈l∨y=x:=List.mem_or_eq_of_mem_set h
theorem zgy {c:ContractT} {s:StateT} {a:Int} (hc:c.Ok) (hv:VS c s) (h1 : -1≤a) (h2:a < c.acts.length) (hd:s.day < c.days) :
    Ret (d_Step c s a) (fun r=>r.2=0∧VS c r.1∧(a = -1→zhj c s r.1)∧(∀ (i:Nat) (x:ActT),a=(i:Int)→c.acts[i]?=some x→zgx c i x s r.1)):=by
  have ho:=hc.off.lt (by omega:0 < 8)
  have sm:=qu ho hv.cv
  have s1:=sm.holders
  have s2:=sm.acts
  have s3:=sm.clauses
  have sd:=sm.days
  have hlh:=hv.lh
  have hlu:=hv.lu
  have hlm:=hv.lm
  have hday:=hv.day
  have hmo:MOk c s.marks:=⟨hlm,fun i k m hk hm=>hv.mrk i k m hk hm⟩
  unfold d_Step
  have e1:decide (a < -1)=false:=decide_eq_false (by omega)
  have e2:decide ((c.acts.length:Int)≤a)=false:=decide_eq_false (by omega)
  refine Ret.bindE (v:=false) (by rw [vF c s hc,JI hv,e1,e2];rfl) ?_
  refine Ret.ite (fun h=>by cases h) (fun _ => ?_)
  refine Ret.ite (fun h=>absurd (beq_iff_eq.1 h) (by omega)) (fun _ => ?_)
  refine Ret.bindE (za4 (show s.holders.length < 1000 by omega) (by omega)) ?_
  refine Ret.bindE (za4 (show s.used.length < 1000 by omega) (by omega)) ?_
  refine Ret.bindE (za4 (show s.marks.length < 1000 by omega) (by omega)) ?_
  refine Ret.bindE (X6 (by simp) rfl) ?_
  refine Ret.bindE (X6 (by simp) rfl) ?_
  refine Ret.bindE (X6 (by simp) rfl) ?_
  cases ht:(a == (-1:Int)) with
  | true=>
    have ha:=beq_iff_eq.1 ht
    simp only [cond_true]
    rw [zh0 c s.day s.holders s.used s.marks ho hv.cv hmo (by omega)]
    have hmo2:MOk c (s.marks.mapIdx (atK c (yc (jm c.off s.day).isSome))):=hmo.mapIdx _ fun i k m hk h=>zgv _ (ww ho hv.cv hk) (by have:=sm.parties;omega) h
    refine Ret.bind (P:=fun v:List Int×List Bool×List MarkT×Int=>v.1=s.holders∧v.2.1=s.used∧v.2.2.2=s.day+1∧StartP c s.holders (s.marks.mapIdx (atK c (yc (jm c.off s.day).isSome))) v.2.2.1)
      (Ret.bind (YY c (s.day+1) s.holders s.used _ ho hv.cv hlh hv.hold hmo2) fun r hr=>Ret.some ⟨rfl,rfl,qx (by omega) (by omega),hr⟩) ?_
    rintro ⟨v1,v2,v3,v4⟩ ⟨q1,q2,q3,q4⟩
    simp only at q1 q2 q3 q4
    subst q1;subst q2;subst q3
    have hl3:s.marks.length=v3.length:=by have:=q4.ok.1;omega
    simp only [QH,yH hl3,Option.bind_some]
    refine Ret.some ⟨rfl,⟨hv.cv,⟨by show 0≤s.day+1;omega,by show s.day+1≤c.days;omega⟩,hlh,hlu,q4.ok.1,hv.hold,hv.used,q4.ok.2,q4.nr⟩,fun _=>⟨rfl,rfl,rfl,q4⟩,fun i x hi=>by omega⟩
  | false=>
    have ha:=beq_eq_false_iff_ne.1 ht
    obtain ⟨i,rfl⟩:∃ i:Nat,a=(i:Int):=⟨a.toNat,by omega⟩
    have hi:i < c.acts.length:=by omega
    have hx:=List.getElem?_eq_getElem hi
    generalize c.acts[i]=x at hx
    have av:=zdt hv.cv hx
    simp only [cond_false]
    rw [zjK c s.day s.holders s.used s.marks i x ho hv.cv hlh hlu hx hmo]
    have hiu:i < s.used.length:=by omega
    cases hearly:(!(x.kind == 1)&&s.used[i]?.getD false) with
    | true=>
      simp only [cond_true,Option.bind_some,QH]
      refine Ret.some ⟨rfl,hv,fun h=>by omega,fun j y hj hy => ?_⟩
      obtain rfl:i=j:=by omega
      rw [hx] at hy;cases hy
      simp only [Bool.and_eq_true,Bool.not_eq_true',beq_eq_false_iff_ne,List.getElem?_eq_getElem hiu,Option.getD_some] at hearly
      exact .inl ⟨hearly.1,by rw [List.getElem?_eq_getElem hiu,hearly.2],rfl⟩
    | false=>
      simp only [cond_false]
      have hkd:=av.kind
      have hh3:(hs3 x s.holders).length=c.holders.length:=by unfold hs3;cases (x.kind == 1)<;>simp [hlh]
      have hu3:(us3 i x s.used).length=c.acts.length:=by unfold us3;cases (x.kind == 1)<;>simp [hlu]
      have hb3:∀ h∈hs3 x s.holders,0≤h∧h < c.parties:=by
        unfold hs3
        cases hk1:(x.kind == 1) with
        | true=>exact hv.hold
        | false=>
          intro h hh
          have:=hkd.resolve_left (beq_eq_false_iff_ne.1 hk1)
          rcases zh2 hh with h' | h'
          · exact hv.hold h h'
          · omega
      have hus3:∀ (j:Nat) (y:ActT),c.acts[j]?=some y→(us3 i x s.used)[j]?=some true→y.kind≠1:=by
        unfold us3
        cases hk1:(x.kind == 1) with
        | true=>exact hv.used
        | false=>
          intro j y hy hj
          simp only [cond_false] at hj
          rw [List.getElem?_set] at hj
          by_cases hij:i=j
          · subst hij
            rw [hx] at hy;cases hy
            exact beq_eq_false_iff_ne.1 hk1
          · rw [if_neg hij] at hj;exact hv.used j y hy hj
      refine Ret.bind (P:=fun v:List Int×List Bool×List MarkT×Int=>v.1=hs3 x s.holders∧v.2.1=us3 i x s.used∧v.2.2.2=s.day∧StartP c (hs3 x s.holders) (ms3 c i x s.holders s.marks) v.2.2.1)
        (Ret.bind (P:=fun v:List Int×List Bool×List MarkT=>v.1=hs3 x s.holders∧v.2.1=us3 i x s.used∧StartP c (hs3 x s.holders) (ms3 c i x s.holders s.marks) v.2.2) (Ret.bind (YY c s.day _ (us3 i x s.used) _ ho hv.cv hh3 hb3 (zjJ ho hv.cv (by omega) av hmo)) fun r hr=>Ret.some ⟨rfl,rfl,hr⟩) fun v hv'=>Ret.some ⟨hv'.1,hv'.2.1,rfl,hv'.2.2⟩) ?_
      rintro ⟨v1,v2,v3,v4⟩ ⟨q1,q2,q3,q4⟩
      simp only at q1 q2 q3 q4
      subst q1;subst q2;subst q3
      have hl3:s.marks.length=v3.length:=by have:=q4.ok.1;omega
      simp only [yH (show s.holders.length=(hs3 x s.holders).length by omega),yH (show s.used.length=(us3 i x s.used).length by omega),yH hl3,Option.bind_some]
      refine Ret.some ⟨rfl,⟨hv.cv,hday,hh3,hu3,q4.ok.1,hb3,hus3,q4.ok.2,q4.nr⟩,fun h=>by omega,fun j y hj hy => ?_⟩
      obtain rfl:i=j:=by omega
      rw [hx] at hy;cases hy
      refine .inr ⟨?_,rfl,rfl,rfl,q4⟩
      simp only [Bool.and_eq_false_iff,Bool.not_eq_false',beq_iff_eq,List.getElem?_eq_getElem hiu,Option.getD_some] at hearly
      rcases hearly with h | h
      · exact .inl h
      · exact .inr (by rw [List.getElem?_eq_getElem hiu,h])
noncomputable def qM (c:ContractT) (s:StateT) (a:Int):StateT:=((d_Step c s a).getD (noS,1)).1
theorem xX {c:ContractT} {s:StateT} {a:Int} (hc:c.Ok) (hv:VS c s) (h1 : -1≤a) (h2:a < c.acts.length) (hd:s.day < c.days) :
    d_Step c s a=some (qM c s a,0)∧VS c (qM c s a)∧(a = -1→zhj c s (qM c s a))∧(∀ (i:Nat) (x:ActT),a=(i:Int)→c.acts[i]?=some x→zgx c i x s (qM c s a)):=by
  obtain ⟨⟨r1,r2⟩,e,h⟩:=zgy hc hv h1 h2 hd
  have e2:qM c s a=r1:=by unfold qM;rw [e];rfl
  rw [e2,e]
  obtain ⟨h0,h⟩:=h
  simp only at h0 h
  subst h0
  exact ⟨rfl,h⟩
theorem Xl {α:Type} [BEq α] [LawfulBEq α] {f:Nat→Unit→Option (Unit ⊕ Unit)} (a b:List α) (hl:a.length=b.length) (ha:a.length < 4611686018427387904) (h:∀ (i:Nat) (h1:i < a.length) (h2:i < b.length),f i ()=some (bif a[i] == b[i] then .inl () else .inr ())) :
    forR (a.length:Int) f ()=some (bif a == b then .inl () else .inr ()):=by
  rw [Zs (fun i=>a[i]? == b[i]?) ha (fun i hi=>by
    rw [h i hi (by omega),List.getElem?_eq_getElem hi,List.getElem?_eq_getElem (show i < b.length by omega)]
    show _=some (bif (some a[i] == some b[i]) then _ else _)
    rfl)]
  congr 2
  rw [Bool.eq_iff_iff,List.all_eq_true]
  constructor
  · intro hh
    rw [beq_iff_eq]
    refine List.ext_getElem? fun i => ?_
    by_cases hi:i < a.length
    · exact beq_iff_eq.1 (hh i (List.mem_range.2 hi))
    · rw [List.getElem?_eq_none (by omega),List.getElem?_eq_none (by omega)]
  · intro hh i _
    rw [beq_iff_eq.1 hh];exact beq_self_eq_true _
theorem Xm {α:Type} (a b:List α):((a.length:Int) == (b.length:Int))=decide (a.length=b.length):=by
  by_cases h:a.length=b.length
  · simp [h]
  · simp only [h,decide_false];exact beq_eq_false_iff_ne.2 (by omega)
theorem zk6 (a b:List Int) (ha:a.length < 4611686018427387904):Kz a b=some (a == b):=by
  unfold Kz
  rw [Xm]
  by_cases h:a.length=b.length
  · simp only [h,decide_true,cond_true]
    rw [←h,Xl a b h ha (fun i h1 h2=>by
      simp only [zO,List.getElem?_eq_getElem h1,List.getElem?_eq_getElem h2,Option.bind_some,zo])]
    cases (a == b)<;>rfl
  · simp only [h,decide_false,cond_false]
    have:a≠b:=fun e=>h (by rw [e])
    rw [beq_eq_false_iff_ne.2 this]
theorem zk7 (a b:List Bool) (ha:a.length < 4611686018427387904):KB a b=some (a == b):=by
  unfold KB
  rw [Xm]
  by_cases h:a.length=b.length
  · simp only [h,decide_true,cond_true]
    rw [←h,Xl a b h ha (fun i h1 h2=>by
      simp only [zO,List.getElem?_eq_getElem h1,List.getElem?_eq_getElem h2,Option.bind_some,zo])]
    cases (a == b)<;>rfl
  · simp only [h,decide_false,cond_false]
    have:a≠b:=fun e=>h (by rw [e])
    rw [beq_eq_false_iff_ne.2 this]
instance:BEq MarkT:=⟨fun a b=>(a.status == b.status)&&((a.left == b.left)&&((a.got == b.got)&&((a.bearer == b.bearer)&&((a.paused == b.paused)&&true))))⟩
instance:LawfulBEq MarkT where
  eq_of_beq {a b} h:=by
    have h':((a.status == b.status)&&((a.left == b.left)&&((a.got == b.got)&&((a.bearer == b.bearer)&&((a.paused == b.paused)&&true)))))=true:=h
    simp only [Bool.and_eq_true,beq_iff_eq,and_true] at h'
    obtain ⟨h1,h2,h3,h4,h5⟩:=h'
    cases a;cases b;simp_all
  rfl {a}:=by
    show ((a.status == a.status)&&((a.left == a.left)&&((a.got == a.got)&&((a.bearer == a.bearer)&&((a.paused == a.paused)&&true)))))=true
    simp
theorem zk8 (a b:List MarkT) (ha:a.length < 4611686018427387904):KC a b=some (a == b):=by
  unfold KC
  rw [Xm]
  by_cases h:a.length=b.length
  · simp only [h,decide_true,cond_true]
    rw [←h,Xl a b h ha (fun i h1 h2=>by
      simp only [zO,List.getElem?_eq_getElem h1,List.getElem?_eq_getElem h2,Option.bind_some,zo];rfl)]
    cases (a == b)<;>rfl
  · simp only [h,decide_false,cond_false]
    have:a≠b:=fun e=>h (by rw [e])
    rw [beq_eq_false_iff_ne.2 this]
def yd (a b:StateT):Bool:=a.day == b.day&&(a.holders == b.holders&&(a.used == b.used&&a.marks == b.marks))
theorem JJ {a b:StateT}:yd a b=true↔a=b:=by
  unfold yd
  simp only [Bool.and_eq_true,beq_iff_eq]
  constructor
  · rintro ⟨h1,h2,h3,h4⟩
    cases a;cases b;simp_all
  · rintro rfl;exact ⟨rfl,rfl,rfl,rfl⟩
theorem zh3 (a b:StateT) (h1:a.holders.length < 4611686018427387904) (h2:a.used.length < 4611686018427387904) (h3:a.marks.length < 4611686018427387904):ZW a b=some (yd a b):=by
  unfold ZW yd
  rw [zk6 _ _ h1,zk7 _ _ h2,zk8 _ _ h3]
  simp only [Option.bind_some,zo,Bool.cond_false_right]
theorem VS.few {c:ContractT} {s:StateT} (hc:c.Ok) (h:VS c s):s.holders.length≤12∧s.used.length≤60∧s.marks.length≤400:=by
  have sm:=qu (hc.off.lt (by omega)) h.cv
  have:=sm.holders
  have:=sm.acts
  have:=sm.clauses
  have:=h.lh
  have:=h.lu
  have:=h.lm
  omega
theorem za5 {c:ContractT} {s:StateT} (hc:c.Ok) (h:VS c s):wz s=some s:=by
  have:=h.few hc
  unfold wz
  rw [js (by omega),js (by omega),js (by omega)]
  rfl
noncomputable def xY (c:ContractT) (party:Int) (s:StateT):Bool:=decide (0≤party)&&(decide (party < c.parties)&&vsB c s)
theorem zdw {c:ContractT} (hc:c.Ok) (party:Int) (p:PosT):wX c party p=some (xY c party p.state):=by
  unfold wX xY
  rw [vF c _ hc]
  simp only [Option.bind_some,zo,Bool.cond_false_right]
theorem xK {c:ContractT} {party:Int} {s:StateT}:xY c party s=true↔0≤party∧party < c.parties∧VS c s:=by
  simp only [xY,Bool.and_eq_true,decide_eq_true_eq]
  exact ⟨fun ⟨a,b,d⟩=>⟨a,b,zhi d⟩,fun ⟨a,b,d⟩=>⟨a,b,JI d⟩⟩
noncomputable def mvB (c:ContractT) (party:Int) (p:PosT) (i:Nat):Bool:=match c.acts[i]? with
  | some a=>((xz p.state.holders a == party) == p.own) && !yd (qM c p.state i) p.state
  | none=>false
noncomputable def jo (c:ContractT) (party:Int) (p:PosT) (n:Nat):List Int:=((List.range n).filter (mvB c party p)).map fun i:Nat=>(i:Int)
noncomputable def zB (c:ContractT) (party:Int) (p:PosT):List Int:=
  (bif p.own then [-2] else [])++(bif decide (c.days≤p.state.day) then [] else (bif p.own then [] else [-1])++jo c party p c.acts.length)
noncomputable def target (c:ContractT) (p:PosT) (move:Int):PosT:=if move = -2 then {state:=p.state,own:=false} else {state:=qM c p.state move,own:=true}
theorem yX (c:ContractT) (party:Int) (p:PosT) (n:Nat):jo c party p (n+1)=jo c party p n++(bif mvB c party p n then [(n:Int)] else []):=by
  unfold jo
  rw [List.range_succ,List.filter_append,List.map_append]
  congr 1
  cases h:mvB c party p n<;>simp [h]
theorem YZ (c:ContractT) (party:Int) (p:PosT) (n:Nat):(jo c party p n).length≤n:=by
  unfold jo
  rw [List.length_map]
  have:=List.length_filter_le (mvB c party p) (List.range n)
  simpa using this
theorem zgz {c:ContractT} {s:StateT} {a:ActT} (hv:VS c s) (av:AV2 c a):(bif a.role == (-1) then some (-1) else (Option.bind (ze s.holders a.role) fun e2=>some e2))=some (xz s.holders a):=by
  unfold xz
  cases hr:(a.role == (-1:Int)) with
  | true=>rfl
  | false=>
    have h1:=beq_eq_false_iff_ne.1 hr
    have:=av.role
    have:=hv.lh
    obtain ⟨h2,h3⟩:=qU (l:=s.holders) (n:=a.role) (by omega) (by omega)
    rw [h3,List.getElem?_eq_getElem h2];rfl
def za6:ContractT:={parties:=0,holders:=[],units:=[],acts:=[],clauses:=[],days:=0,off:=[]}
def wZ (l:List Int) (s:CondT):Option CondT:=(jm l s.clause).map fun p=>({clause:=p,is:=s.is}:CondT)
def QJ (c:ContractT) (l:List Int) (i:Int):Option ClauseT:=(ze c.clauses i).bind fun k=>(mapO (wZ l) k.start).map fun st=>({k with start:=st}:ClauseT)
noncomputable def Vn (c:ContractT) (l:List Int):ContractT×Int:=
  bif (zZ c).1 == 0 then bif x9 c.clauses.length (-1) l then (match mapO (QJ c l) l with
    | some ks=>(({c with clauses:=ks}:ContractT),0)
    | none=>(za6,1)) else (za6,1) else (za6,1)
theorem zjL (c:ContractT) (l:List Int) (ho:c.off.length < 4611686018427387904) (hst:∀ k∈c.clauses,k.start.length < 4611686018427387904) (hl:l.length < 4611686018427387904):wh c l=some (Vn c l):=by
  unfold wh Vn
  rw [VY c ho hst]
  simp only [Option.bind_some]
  cases hv:((zZ c).1 == 0) with
  | false=>rfl
  | true=>
    have sm:=qu ho (by simpa using hv)
    simp only [cond_true]
    rw [zdb c.clauses.length l hl (-1)]
    simp only [Option.bind_some]
    cases hi:x9 c.clauses.length (-1) l with
    | false=>rfl
    | true=>
      obtain ⟨hr,hp⟩:=yw hi
      have hlen:l.length≤400:=by
        have:=kI hi;have:=sm.clauses;omega
      have e1:=sm.holders
      have e2:=sm.units
      have e3:=sm.acts
      have e4:=sm.off
      simp only [cond_true,Sum.elim_inl]
      rw [js (by omega),js (by omega),js (by omega),js (by omega)]
      have hmk:mkN 136 (l.length:Int)=some l.length:=by
        unfold mkN;rw [if_pos (by omega)];simp
      simp only [Option.bind_some,hmk]
      rw [YN l (QJ c l) _ () (by simp) (by omega) (fun i hi' ks hks=>by
        have hx:=hr l[i] (List.getElem_mem hi')
        obtain ⟨hci,eci⟩:=qU (l:=c.clauses) (n:=l[i]) (by omega) (by omega)
        simp only [zO,List.getElem?_eq_getElem hi',Option.bind_some,eci,QJ]
        have hsl:=sm.start _ (List.getElem_mem hci)
        rw [js (by omega)]
        simp only [Option.bind_some]
        generalize hk:c.clauses[l[i].toNat]=k at hsl ⊢
        rw [YN k.start (wZ l) k.start () rfl (by omega) (fun i3 hi3 ks3 hks3=>by
          have hg:(ks3++k.start.drop i3)[i3]?=some k.start[i3]:=by
            rw [List.getElem?_append_right (by omega),hks3,Nat.sub_self,List.getElem?_drop];simp [hi3]
          obtain ⟨r,hb1,hb2⟩:=Z0 l k.start[i3].clause hp hl
          simp only [zL hi3,Option.bind_some,hg,hb1,wZ]
          cases hpos:jm l k.start[i3].clause with
          | none=>rfl
          | some p=>rw [hb2 p hpos];rfl)]
        simp only [Option.bind_some]
        cases hm:mapO (wZ l) k.start with
        | none=>rfl
        | some st=>
          have hst':=jB hm
          simp only [Sum.elim_inl,zL hi',Option.bind_some,Option.map_some]
          have hg:(ks++(List.replicate l.length ({kind:=0,role:=0,act:=0,need:=0,start:=[],after:=0,grace:=0,business:=false,final:=false,pause:=0,resume:=0,value:=({num:=0,den:=0}:Ratio),unit:=0,to:=0,waived:=false}:ClauseT)).drop i)[i]?.isSome=true:=by
            simp [hks,hi'];omega
          obtain ⟨z,hz⟩:=Option.isSome_iff_exists.1 hg
          rw [hz]
          simp only [Option.bind_some]
          rw [List.take_of_length_le (by omega)])]
      simp only [Option.bind_some]
      cases hm:mapO (QJ c l) l with
      | none=>rfl
      | some ks=>
        simp only [Sum.elim_inl]
        first
          | rw [List.take_of_length_le (by rw [jB hm];exact Nat.le_refl _)]
          | (unfold eqN;rw [dif_pos (jB hm).symm];rfl)
structure PartOk (c:ContractT) (l:List Int) (ks:List ClauseT):Prop where
  valid:(zZ c).1=0
  inc:x9 c.clauses.length (-1) l=true
  sel:mapO (QJ c l) l=some ks
theorem PartOk.eq {c:ContractT} {l:List Int} {ks:List ClauseT} (h:PartOk c l ks):Vn c l=(({c with clauses:=ks}:ContractT),0):=by
  unfold Vn
  rw [h.valid,h.inc,h.sel];rfl
theorem Y0 {c:ContractT} {l:List Int} {i:Int} {k':ClauseT} (h:QJ c l i=some k'):∃ k st,0≤i∧c.clauses[i.toNat]?=some k∧mapO (wZ l) k.start=some st∧k'=({k with start:=st}:ClauseT):=by
  unfold QJ at h
  obtain ⟨k,h1,h2⟩:=vS h
  obtain ⟨h3,h4,_⟩:=Jj h1
  rw [Option.map_eq_some_iff] at h2
  obtain ⟨st,h5,h6⟩:=h2
  exact ⟨k,st,h3,h4,h5,h6.symm⟩
theorem QK {l:List Int} {s s':CondT} (h:wZ l s=some s'):∃ p,jm l s.clause=some p∧s'=({clause:=p,is:=s.is}:CondT):=by
  unfold wZ at h
  rw [Option.map_eq_some_iff] at h
  obtain ⟨p,h1,h2⟩:=h
  exact ⟨p,h1,h2.symm⟩
theorem PartOk.ok {c:ContractT} {l:List Int} {ks:List ClauseT} (ho:c.off.length < 4611686018427387904) (h:PartOk c l ks):zZ ({c with clauses:=ks}:ContractT)=(0,-1):=by
  have sm:=qu ho h.valid
  obtain ⟨v1,v2,v3,_⟩:=yF h.valid
  obtain ⟨hr,hp⟩:=yw h.inc
  have hkl:=jB h.sel
  have hlen:=kI h.inc
  have hcl:=sm.clauses
  refine ze7 ?_ v2 ?_
  · simp only [vE,Bool.or_eq_false_iff,decide_eq_false_iff_not] at v1 ⊢
    refine ⟨v1.1,v1.2.1,v1.2.2.1,v1.2.2.2.1,v1.2.2.2.2.1,by omega⟩
  · intro j hj
    have hj:j < ks.length:=hj
    obtain ⟨k',h1,h2⟩:=vr h.sel j l[j] (List.getElem?_eq_getElem (by omega))
    obtain ⟨k,st,h3,h4,h5,rfl⟩:=Y0 h1
    have hold:=v3 l[j].toNat (List.getElem?_eq_some_iff.1 h4).1
    simp only [clB,h4] at hold
    simp only [clB,h2]
    simp only [wH,Bool.and_eq_true] at hold ⊢
    obtain ⟨a1,⟨a2,a3⟩,a4,a5,a6⟩:=hold
    refine ⟨a1,⟨a2,by rw [jB h5];exact a3⟩,?_,a5,a6⟩
    refine List.all_eq_true.2 fun s' hs' => ?_
    obtain ⟨q,hq,e⟩:=List.getElem_of_mem hs'
    have hq':q < k.start.length:=by rw [←jB h5];exact hq
    obtain ⟨b,h6,h7⟩:=vr h5 q k.start[q] (List.getElem?_eq_getElem hq')
    rw [List.getElem?_eq_getElem hq] at h7
    cases h7
    obtain ⟨p,h8,h9⟩:=QK h6
    have hold:=List.all_eq_true.1 a4 k.start[q] (List.getElem_mem hq')
    obtain ⟨p1,p2⟩:=JH h8
    have p3:=(List.getElem?_eq_some_iff.1 p2).1
    rw [←e,h9]
    simp only [Xi,Bool.and_eq_true,Bool.not_eq_true',decide_eq_false_iff_not,beq_eq_false_iff_ne] at hold ⊢
    refine ⟨by omega,by omega,fun hpj => ?_,hold.2.2.2⟩
    subst hpj
    simp only [Int.toNat_natCast] at p2
    rw [List.getElem?_eq_getElem (by omega)] at p2
    have p4:=Option.some.inj p2
    exact hold.2.2.1 (by omega)
section
abbrev cp (c:ContractT) (ks:List ClauseT):ContractT:={c with clauses:=ks}
def rsM (P:List Int) (ms:List MarkT):List MarkT:=P.map fun i=>ms[i.toNat]?.getD default
def rs (P:List Int) (s:StateT):StateT:={s with marks:=rsM P s.marks}
theorem za7 {a b:StateT} (h1:a.day=b.day) (h2:a.holders=b.holders) (h3:a.used=b.used) (h4:a.marks=b.marks):a=b:=by
  cases a;cases b;simp only at h1 h2 h3 h4;subst h1 h2 h3 h4;rfl
theorem X7 {α β:Type} {g:α→Option β} {l:List α} {m:List β} (h:mapO g l=some m):(∀ y∈m,∃ x∈l,g x=some y)∧∀ x∈l,∃ y∈m,g x=some y:=by
  have hl:=jB h
  refine ⟨fun y hy => ?_,fun x hx => ?_⟩
  · obtain ⟨i,hi,rfl⟩:=List.getElem_of_mem hy
    obtain ⟨b,h1,h2⟩:=vr h i l[i] (List.getElem?_eq_getElem (by omega))
    rw [List.getElem?_eq_getElem hi] at h2
    cases h2
    exact ⟨_,List.getElem_mem (by omega),h1⟩
  · obtain ⟨i,hi,rfl⟩:=List.getElem_of_mem hx
    obtain ⟨b,h1,h2⟩:=vr h i l[i] (List.getElem?_eq_getElem hi)
    exact ⟨b,List.mem_of_getElem? h2,h1⟩
theorem zfd {α β:Type} {g:α→Option β} {l:List α} {m:List β} (h:mapO g l=some m) {f:β→Bool} {f':α→Bool} (hf:∀ x y,x∈l→g x=some y→f y=f' x):m.all f=l.all f':=by
  obtain ⟨h1,h2⟩:=X7 h
  rw [Bool.eq_iff_iff,List.all_eq_true,List.all_eq_true]
  constructor
  · intro hm x hx
    obtain ⟨y,hy,e⟩:=h2 x hx
    rw [←hf x y hx e];exact hm y hy
  · intro hm y hy
    obtain ⟨x,hx,e⟩:=h1 y hy
    rw [hf x y hx e];exact hm x hx
structure Pos (c:ContractT) (P:List Int) (ks:List ClauseT):Prop where
  len:ks.length=P.length
  rng:∀ x∈P,0≤x∧x < c.clauses.length
  at_:∀ (p:Nat),p < P.length→∃ (i:Nat) (k:ClauseT) (st:List CondT),P[p]?=some (i:Int)∧c.clauses[i]?=some k∧mapO (wZ P) k.start=some st∧ks[p]?=some ({k with start:=st}:ClauseT)
theorem PartOk.pos {c:ContractT} {P:List Int} {ks:List ClauseT} (h:PartOk c P ks):Pos c P ks:=by
  obtain ⟨hr,hp⟩:=yw h.inc
  refine ⟨jB h.sel,fun x hx=>by have:=hr x hx;omega,fun p hp => ?_⟩
  obtain ⟨k',h1,h2⟩:=vr h.sel p P[p] (List.getElem?_eq_getElem hp)
  obtain ⟨k,st,h3,h4,h5,rfl⟩:=Y0 h1
  refine ⟨P[p].toNat,k,st,?_,h4,h5,h2⟩
  rw [List.getElem?_eq_getElem hp];congr 1;omega
section
variable {c:ContractT} {P:List Int} {ks:List ClauseT}
theorem Xn (ms:List MarkT):(rsM P ms).length=P.length:=by simp [rsM]
theorem xq {ms:List MarkT} {p i:Nat} (hp:P[p]?=some (i:Int)) (hi:i < ms.length):(rsM P ms)[p]?=ms[i]?:=by
  unfold rsM
  rw [List.getElem?_map,hp]
  simp [hi]
theorem JK (h:Pos c P ks) {ms:List MarkT} (hl:ms.length=c.clauses.length) {x y:CondT} (hx:wZ P x=some y):jn (rsM P ms) y=jn ms x∧y.is=x.is∧P[y.clause.toNat]?=some (x.clause.toNat:Int):=by
  obtain ⟨q,h1,rfl⟩:=QK hx
  obtain ⟨q0,q1⟩:=JH h1
  have hr:=h.rng _ (List.mem_of_getElem? q1)
  have e:x.clause=(x.clause.toNat:Int):=by omega
  have q2:P[q.toNat]?=some (x.clause.toNat:Int):=by rw [q1];congr 1
  refine ⟨?_,rfl,q2⟩
  have e1:ze (rsM P ms) q=ze ms x.clause:=by
    unfold ze
    rw [if_pos q0,if_pos hr.1,xq q2 (by omega)]
  unfold jn
  simp only [e1]
theorem zdx (h:Pos c P ks) {ms:List MarkT} (hl:ms.length=c.clauses.length) {p i:Nat} (hp:P[p]?=some (i:Int)):je ks (rsM P ms) p=je c.clauses ms i:=by
  obtain ⟨hlt,_⟩:=List.getElem?_eq_some_iff.1 hp
  obtain ⟨i',k,st,h1,h2,h3,h4⟩:=h.at_ p hlt
  rw [hp] at h1
  have e:i=i':=by have:=Option.some.inj h1;omega
  subst e
  have hi:=(List.getElem?_eq_some_iff.1 h2).1
  unfold je
  rw [h4,h2,xq hp (by omega),List.getElem?_eq_getElem (by omega:i < ms.length)]
  simp only
  rw [zfd h3 (f':=jn ms) fun x y _ hxy=>(JK h hl hxy).1]
theorem Zv (h:Pos c P ks) {ms:List MarkT} (hl:ms.length=c.clauses.length):∀ (n p i:Nat),P[p]?=some (i:Int)→(kT ks (rsM P ms) n p↔kT c.clauses ms n i)
  | 0,p,i,hp=>Iff.rfl
  | n+1,p,i,hp=>by
    obtain ⟨hlt,_⟩:=List.getElem?_eq_some_iff.1 hp
    obtain ⟨i',k,st,h1,h2,h3,h4⟩:=h.at_ p hlt
    rw [hp] at h1
    have e:i=i':=by have:=Option.some.inj h1;omega
    subst e
    have hi:=(List.getElem?_eq_some_iff.1 h2).1
    obtain ⟨m1,m2⟩:=X7 h3
    simp only [kT,h4,h2,xq hp (by omega:i < ms.length)]
    constructor
    · rintro ⟨k',m,e1,e2,e3,e4,e5⟩
      cases e1
      refine ⟨k,m,rfl,e2,e3,e4,fun x hx => ?_⟩
      obtain ⟨y,hy,hxy⟩:=m2 x hx
      obtain ⟨g1,g2,g3⟩:=JK h hl hxy
      rcases e5 y hy with g | ⟨g,g'⟩
      · exact .inl (by rw [←g1];exact g)
      · exact .inr ⟨by rw [←g2];exact g,(Zv h hl n _ _ g3).1 g'⟩
    · rintro ⟨k',m,e1,e2,e3,e4,e5⟩
      cases e1
      refine ⟨_,m,rfl,e2,e3,e4,fun y hy => ?_⟩
      obtain ⟨x,hx,hxy⟩:=m1 y hy
      obtain ⟨g1,g2,g3⟩:=JK h hl hxy
      rcases e5 x hx with g | ⟨g,g'⟩
      · exact .inl (by rw [g1];exact g)
      · exact .inr ⟨by rw [g2];exact g,(Zv h hl n _ _ g3).2 g'⟩
theorem zgA (h:Pos c P ks) {ms:List MarkT} (hl:ms.length=c.clauses.length) {p i:Nat} (hp:P[p]?=some (i:Int)):Sta ks (rsM P ms) p↔Sta c.clauses ms i:=
  ⟨fun ⟨n,hn⟩=>⟨n,(Zv h hl n p i hp).1 hn⟩,fun ⟨n,hn⟩=>⟨n,(Zv h hl n p i hp).2 hn⟩⟩
theorem Vo (h:Pos c P ks) {hs:List Int} {ms r r':List MarkT} (hl:ms.length=c.clauses.length) (S:StartP c hs ms r) (S':StartP (cp c ks) hs (rsM P ms) r'):r'=rsM P r:=by
  have hl':r'.length=P.length:=S'.ok.1.trans h.len
  refine List.ext_getElem? fun p => ?_
  by_cases hp:p < P.length
  · obtain ⟨i,k,st,h1,h2,h3,h4⟩:=h.at_ p hp
    have hi:=(List.getElem?_eq_some_iff.1 h2).1
    have him:i < ms.length:=by omega
    have hm:=List.getElem?_eq_getElem him
    have hr:=S.ok.1
    rw [xq h1 (by omega:i < r.length)]
    have hs1:=S.sta i k _ h2 hm
    have hs2:=S'.sta p _ ms[i] h4 (by rw [xq h1 him];exact hm)
    have e:=zgA h hl h1
    rcases hs1 with ⟨a1,a2⟩ | ⟨a1,a2⟩
    · rcases hs2 with ⟨b1,b2⟩ | ⟨b1,b2⟩
      · rw [a2,b2]
      · exact absurd (e.1 b1) a1
    · rcases hs2 with ⟨b1,b2⟩ | ⟨b1,b2⟩
      · exact absurd (e.2 a1) b1
      · rw [a2,b2];rfl
  · rw [List.getElem?_eq_none (by omega),List.getElem?_eq_none (by rw [Xn];omega)]
theorem ye (h:Pos c P ks) (F:ClauseT→MarkT→MarkT) (hF:∀ (k:ClauseT) (st:List CondT) (m:MarkT),F ({k with start:=st}:ClauseT) m=F k m) {ms:List MarkT} (hl:ms.length=c.clauses.length):rsM P (ms.mapIdx (atK c F))=(rsM P ms).mapIdx (atK (cp c ks) F):=by
  refine List.ext_getElem? fun p => ?_
  rw [List.getElem?_mapIdx]
  by_cases hp:p < P.length
  · obtain ⟨i,k,st,h1,h2,h3,h4⟩:=h.at_ p hp
    have hi:=(List.getElem?_eq_some_iff.1 h2).1
    rw [xq h1 (by rw [List.length_mapIdx];omega),xq h1 (by omega:i < ms.length),List.getElem?_mapIdx,List.getElem?_eq_getElem (by omega:i < ms.length)]
    simp only [Option.map_some,atK,h2]
    have h4':(cp c ks).clauses[p]?=some ({k with start:=st}:ClauseT):=h4
    rw [h4']
    simp only [hF]
  · rw [List.getElem?_eq_none (by rw [Xn];omega),List.getElem?_eq_none (by rw [Xn];omega)];rfl
theorem zgB (h:Pos c P ks) (act:Int) (a:ActT) (hs:List Int) {ms:List MarkT} (hl:ms.length=c.clauses.length):rsM P (ms3 c act a hs ms)=ms3 (cp c ks) act a hs (rsM P ms):=by
  have e1:rsM P (ms1 c act ms)=ms1 (cp c ks) act (rsM P ms):=ye h _ (fun k st m=>rfl) hl
  have l1:(ms1 c act ms).length=c.clauses.length:=by unfold ms1;rw [List.length_mapIdx];exact hl
  have e2:rsM P (ms2 c act a hs ms)=ms2 (cp c ks) act a hs (rsM P ms):=by
    unfold ms2
    rw [ye h _ (fun k st m=>rfl) l1,e1]
  have l2:(ms2 c act a hs ms).length=c.clauses.length:=by unfold ms2;rw [List.length_mapIdx];exact l1
  unfold ms3
  cases (a.kind == 3) with
  | false=>exact e2
  | true=>
    simp only [cond_true]
    rw [ye h _ (fun k st m=>rfl) l2,e2]
theorem zh4 (act:Int) (a:ActT) (hs:List Int) {ms:List MarkT}:(ms3 c act a hs ms).length=ms.length:=by
  unfold ms3 ms2 ms1
  cases (a.kind == 3)<;>simp
theorem PartOk.okk (hc:c.Ok) (h:PartOk c P ks):(cp c ks).Ok:=by
  have hpos:=h.pos
  have sm:=qu (hc.off.lt (by omega)) h.valid
  have hcl:=sm.clauses
  have hlen:=kI h.inc
  refine {hc with clauses:=⟨?_,fun k' hk' => ?_⟩}
  · have:=hpos.len
    have hr:(54400:Nat)≤reachBytes:=by decide
    have:ks.length≤400:=by omega
    have:ks.length*136≤54400:=by omega
    first | omega | exact Nat.le_trans (by omega) hr
  · obtain ⟨p,hp,rfl⟩:=List.getElem_of_mem hk'
    obtain ⟨i,k,st,h1,h2,h3,h4⟩:=hpos.at_ p (by rw [←hpos.len];exact hp)
    rw [List.getElem?_eq_getElem hp] at h4
    rw [Option.some.inj h4]
    have hk:=hc.clauses.2 k (List.mem_of_getElem? h2)
    have hs8:=sm.start k (List.mem_of_getElem? h2)
    refine {hk with start:=⟨?_,fun y hy => ?_⟩}
    · rw [jB h3];exact hk.start.1
    · obtain ⟨x,hx,hxy⟩:=(X7 h3).1 y hy
      obtain ⟨q,g1,rfl⟩:=QK hxy
      obtain ⟨q0,q1⟩:=JH g1
      have hq:=(List.getElem?_eq_some_iff.1 q1).1
      refine ⟨?_,(hk.start.2 x hx).is⟩
      unfold InK
      have e1:IntKind.i64.min = -9223372036854775808:=by decide
      have e2:IntKind.i64.max=9223372036854775807:=by decide
      rw [e1,e2]
      simp only
      omega
theorem Z3 (hc:c.Ok) (h:PartOk c P ks) {s:StateT} (hv:VS c s):VS (cp c ks) (rs P s):=by
  have hp:=h.pos
  refine ⟨by rw [h.ok (hc.off.lt (by omega))],hv.day,hv.lh,hv.lu,?_,hv.hold,hv.used,fun p k' m hk hm => ?_,fun p hlt => ?_⟩
  · show (rsM P s.marks).length=ks.length
    rw [Xn,hp.len]
  · have hlt:p < ks.length:=(List.getElem?_eq_some_iff.1 hk).1
    obtain ⟨i,k,st,h1,h2,h3,h4⟩:=hp.at_ p (by rw [←hp.len];exact hlt)
    have hk:ks[p]?=some k':=hk
    rw [h4] at hk
    cases hk
    have hi:=(List.getElem?_eq_some_iff.1 h2).1
    have hlm:=hv.lm
    have hm:(rsM P s.marks)[p]?=some m:=hm
    rw [xq h1 (by omega)] at hm
    exact hv.mrk i k m h2 hm
  · have hlt:p < ks.length:=hlt
    obtain ⟨i,k,st,h1,h2,h3,h4⟩:=hp.at_ p (by rw [←hp.len];exact hlt)
    show je ks (rsM P s.marks) p=false
    rw [zdx hp hv.lm h1]
    exact hv.rdy i (List.getElem?_eq_some_iff.1 h2).1
theorem yI (hc:c.Ok) (h:PartOk c P ks) {s:StateT} (hv:VS c s) {a:Int} (h1 : -1≤a) (h2:a < c.acts.length) (hd:s.day < c.days):qM (cp c ks) (rs P s) a=rs P (qM c s a):=by
  have hp:=h.pos
  obtain ⟨_,_,t1,a1⟩:=xX hc hv h1 h2 hd
  obtain ⟨_,_,t2,a2⟩:=xX (h.okk hc) (Z3 hc h hv) h1 h2 hd
  rcases Int.lt_or_le a 0 with hneg | hpos
  · obtain ⟨x1,x2,x3,x4⟩:=t1 (by omega)
    obtain ⟨y1,y2,y3,y4⟩:=t2 (by omega)
    refine za7 (y1.trans (by rw [show (rs P (qM c s a)).day=(qM c s a).day from rfl,x1];rfl)) (y2.trans x2.symm) (y3.trans x3.symm) ?_
    refine Vo hp (by rw [List.length_mapIdx];exact hv.lm) x4 ?_
    have e:=ye hp (yc (jm c.off s.day).isSome) (fun k st m=>rfl) hv.lm
    rw [e]
    exact y4
  · have ha:c.acts[a.toNat]?=some c.acts[a.toNat]:=List.getElem?_eq_getElem (by omega)
    have g1:=a1 a.toNat _ (by omega) ha
    have g2:=a2 a.toNat _ (by omega) ha
    rcases g1 with ⟨x1,x2,x3⟩ | ⟨x1,x2,x3,x4,x5⟩
    · rcases g2 with ⟨y1,y2,y3⟩ | ⟨y1,_⟩
      · rw [x3,y3]
      · have y1:c.acts[a.toNat].kind=1∨s.used[a.toNat]?=some false:=y1
        rw [x2] at y1
        simp [x1] at y1
    · rcases g2 with ⟨y1,y2,y3⟩ | ⟨y1,y2,y3,y4,y5⟩
      · have y2:s.used[a.toNat]?=some true:=y2
        rw [y2] at x1
        simp [y1] at x1
      · refine za7 (y2.trans x2.symm) (y3.trans x3.symm) (y4.trans x4.symm) ?_
        refine Vo hp (by rw [zh4];exact hv.lm) x5 ?_
        rw [zgB hp _ _ _ hv.lm]
        exact y5
end
end
def JL (f:Nat→Nat):Nat→Nat
  | 0=>0
  | n+1=>JL f n+f n
theorem V0 {f g:Nat→Nat}:∀ {n:Nat},(∀ i,i < n→f i≤g i)→JL f n≤JL g n
  | 0,_=>Nat.le_refl _
  | n+1,h=>by
    have:=V0 (f:=f) (g:=g) (n:=n) fun i hi=>h i (by omega)
    have:=h n (by omega)
    simp only [JL];omega
theorem zcl {f g:Nat→Nat}:∀ {n:Nat},(∀ i,i < n→f i≤g i)→∀ i,i < n→f i < g i→JL f n < JL g n
  | 0,_,i,hi,_=>by omega
  | n+1,h,i,hi,hlt=>by
    have h1:=h n (by omega)
    simp only [JL]
    by_cases hin:i < n
    · have:=zcl (f:=f) (g:=g) (n:=n) (fun i hi=>h i (by omega)) i hin hlt
      omega
    · obtain rfl:i=n:=by omega
      have:=V0 (f:=f) (g:=g) (n:=i) fun j hj=>h j (by omega)
      omega
def pot (m:MarkT):Nat:=bif m.status == 0 then 9 else bif qY m then (9 - m.got).toNat else 0
def X8 (ms:List MarkT) (i:Nat):Nat:=match ms[i]? with | some m=>pot m | none=>0
def KH (us:List Bool):Nat:=us.countP (fun u=>!u)
def X9 (c:ContractT) (s:StateT):Nat:=JL (X8 s.marks) c.clauses.length+KH s.used
theorem zgC {c:ContractT} {i:Nat} {k:ClauseT} {m:MarkT} {act by_:Int} (kv:KV c i k) (h:jh c.parties k m=true):kV act by_ k m=m∨pot (kV act by_ k m) < pot m:=by
  unfold kV
  cases hr:qY m with
  | false=>exact .inl rfl
  | true=>
    obtain ⟨rv,hb,hs⟩:=xW kv h hr
    have h0:(m.status == 0)=false:=beq_eq_false_iff_ne.2 (by omega)
    have hp:pot m=(9 - m.got).toNat:=by simp only [pot,h0,hr,cond_false,cond_true]
    have hg:=rv.got
    have hn:=kv.need
    have hend:∀ (st:Int) (m':MarkT),st=3∨st=4→pot (kU st m')=0:=by
      intro st m' hst
      rcases hst with rfl | rfl<;>rfl
    simp only [cond_true]
    cases h1:(k.act == act&&(k.kind == 4||m.bearer == by_)) with
    | false=>exact .inl rfl
    | true=>
      simp only [cond_true,zdv]
      cases h2:(k.kind == 1) with
      | true=>
        simp only [cond_true,KG]
        refine .inr ?_
        cases h3:(m.got+1 == k.need) with
        | true=>simp only [cond_true];rw [hend 3 _ (.inl rfl),hp];omega
        | false=>
          have:pot {m with got:=m.got+1}=(9 - (m.got+1)).toNat:=by
            have hr':qY {m with got:=m.got+1}=true:=hr
            simp only [pot,h0,hr',cond_false,cond_true]
          simp only [cond_false];rw [this,hp];omega
      | false=>
        simp only [cond_false]
        cases h3:(k.kind == 2) with
        | true=>
          simp only [cond_true]
          cases m.paused with
          | true=>exact .inl rfl
          | false=>refine .inr ?_;simp only [cond_false];rw [hend 4 _ (.inr rfl),hp];omega
        | false=>refine .inr ?_;simp only [cond_false];rw [hend 3 _ (.inl rfl),hp];omega
theorem zfe (a:ActT) (k:ClauseT) (m:MarkT):pot (yW a k m)=pot m:=by
  unfold yW
  cases hr:qY m with
  | false=>rfl
  | true=>
    simp only [cond_true]
    cases (!(k.kind == 4)&&k.role == a.give) with
    | false=>rfl
    | true=>rfl
theorem zgD {c:ContractT} {s r:StateT} {j:Nat} {a:ActT} (hc:c.Ok) (hv:VS c s) (hr:VS c r) (ha:c.acts[j]?=some a) (hrole:a.role ≠ -1) (h:zgx c j a s r) (hne:r≠s):X9 c r < X9 c s:=by
  have ho:=hc.off.lt (by omega:0 < 8)
  have hlm:=hv.lm
  have hlr:=hr.lm
  rcases h with ⟨_,_,e⟩ | ⟨hk,hday,hhs,hus,hst⟩
  · exact absurd e hne
  · have hpause:∀ (i:Nat) (k:ClauseT) (m:MarkT),c.clauses[i]?=some k→wY j k m=m:=by
      intro i k m hk
      have kv:=ww ho hv.cv hk
      have nat_ne:∀ x:Int,vD c.acts x=true→(j:Int)≠x:=by
        intro x hx e
        subst e
        simp only [vD,zJ ha,Bool.and_eq_true,beq_iff_eq] at hx
        exact hrole hx.2
      have hp:(j:Int)≠k.pause∧(j:Int)≠k.resume:=by
        rcases kv.pause with h | h
        · omega
        · exact ⟨nat_ne _ h.1,nat_ne _ h.2⟩
      unfold wY
      rw [beq_eq_false_iff_ne.2 hp.1,beq_eq_false_iff_ne.2 hp.2]
      cases qY m<;>rfl
    have h1:ms1 c j s.marks=s.marks:=by
      refine List.ext_getElem? fun i => ?_
      unfold ms1
      rw [List.getElem?_mapIdx]
      cases hi:s.marks[i]? with
      | none=>rfl
      | some m=>
        have:=(List.getElem?_eq_some_iff.1 hi).1
        have hk:=List.getElem?_eq_getElem (show i < c.clauses.length by omega)
        simp only [Option.map_some,atK,hk]
        rw [hpause i _ m hk]
    have hms2:∀ (i:Nat) (m:MarkT),s.marks[i]?=some m→∃ m2,(ms2 c j a s.holders s.marks)[i]?=some m2∧(m2=m∨pot m2 < pot m):=by
      intro i m hi
      have:=(List.getElem?_eq_some_iff.1 hi).1
      have hk:=List.getElem?_eq_getElem (show i < c.clauses.length by omega)
      refine ⟨kV j (xz s.holders a) c.clauses[i] m,?_,zgC (ww ho hv.cv hk) (hv.mrk i _ m hk hi)⟩
      unfold ms2
      rw [h1,List.getElem?_mapIdx,hi]
      simp only [Option.map_some,atK,hk]
    have hms3:∀ (i:Nat) (m:MarkT),s.marks[i]?=some m→∃ m3,(ms3 c j a s.holders s.marks)[i]?=some m3∧pot m3≤pot m:=by
      intro i m hi
      obtain ⟨m2,h2,h3⟩:=hms2 i m hi
      have hle:pot m2≤pot m:=by rcases h3 with rfl | h;exact Nat.le_refl _;omega
      unfold ms3
      cases a.kind == 3 with
      | false=>exact ⟨m2,h2,hle⟩
      | true=>
        have:=(List.getElem?_eq_some_iff.1 hi).1
        have hk:=List.getElem?_eq_getElem (show i < c.clauses.length by omega)
        refine ⟨yW a c.clauses[i] m2,?_,by rw [zfe];exact hle⟩
        simp only [cond_true]
        rw [List.getElem?_mapIdx,h2]
        simp only [Option.map_some,atK,hk]
    have hstart:∀ (i:Nat) (m3:MarkT),(ms3 c j a s.holders s.marks)[i]?=some m3→i < c.clauses.length→X8 r.marks i=pot m3:=by
      intro i m3 h3 hi
      have hi':=List.getElem?_eq_getElem (show i < r.marks.length by omega)
      simp only [X8,hi']
      rcases hst.rel i m3 _ h3 hi' with h | ⟨h0,k,b,_,h⟩
      · rw [h]
      · rw [h]
        have:(m3.status == 0)=true:=beq_iff_eq.2 h0
        simp only [pot,this,cond_true];rfl
    have hle:∀ i,i < c.clauses.length→X8 r.marks i≤X8 s.marks i:=by
      intro i hi
      have hi':=List.getElem?_eq_getElem (show i < s.marks.length by omega)
      obtain ⟨m3,h3,h4⟩:=hms3 i _ hi'
      rw [hstart i m3 h3 hi]
      simp only [X8,hi'];exact h4
    by_cases h1k:a.kind=1
    · -- an act of the first kind: some mark must have changed
      have hk1:(a.kind == 1)=true:=beq_iff_eq.2 h1k
      have hk3:(a.kind == 3)=false:=beq_eq_false_iff_ne.2 (by omega)
      have e1:r.holders=s.holders:=by rw [hhs];simp only [hs3,hk1,cond_true]
      have e2:r.used=s.used:=by rw [hus];simp only [us3,hk1,cond_true]
      have e3:ms3 c j a s.holders s.marks=ms2 c j a s.holders s.marks:=by simp only [ms3,hk3,cond_false]
      by_cases hall:∀ (i:Nat) (m:MarkT),s.marks[i]?=some m→(ms2 c j a s.holders s.marks)[i]?=some m
      · exfalso
        have e4:ms2 c j a s.holders s.marks=s.marks:=by
          refine List.ext_getElem? fun i => ?_
          cases hi:s.marks[i]? with
          | some m=>exact hall i m hi
          | none=>
            unfold ms2
            rw [h1,List.getElem?_mapIdx,hi];rfl
        have e5:r.marks=s.marks:=by
          rw [e3,e4] at hst
          exact hst.same hv.rdy
        apply hne
        cases r;cases s
        simp only at hday e1 e2 e5
        subst hday;subst e1;subst e2;subst e5;rfl
      · have:∃ (i:Nat) (m:MarkT),s.marks[i]?=some m∧¬ (ms2 c j a s.holders s.marks)[i]?=some m:=by
          apply Classical.byContradiction
          intro hn
          apply hall
          intro i m hi
          apply Classical.byContradiction
          intro h2
          exact hn ⟨i,m,hi,h2⟩
        obtain ⟨i,m,hi,h2⟩:=this
        have hi':=(List.getElem?_eq_some_iff.1 hi).1
        obtain ⟨m2,h3,h4⟩:=hms2 i m hi
        have hlt:pot m2 < pot m:=by
          rcases h4 with rfl | h
          · exact absurd h3 h2
          · exact h
        have:=zcl hle i (by omega) (by
          rw [hstart i m2 (by rw [e3];exact h3) (by omega)]
          simp only [X8,hi];exact hlt)
        unfold X9;rw [e2];omega
    · have hk1:(a.kind == 1)=false:=beq_eq_false_iff_ne.2 h1k
      have hfree:=hk.resolve_left h1k
      have:=V0 hle
      have hf:KH r.used < KH s.used:=by
        rw [hus]
        simp only [us3,hk1,cond_false]
        obtain ⟨hj,e⟩:=List.getElem?_eq_some_iff.1 hfree
        unfold KH
        rw [List.countP_set hj]
        have hp:0 < s.used.countP (fun u=>!u):=List.countP_pos_iff.2 ⟨_,List.getElem_mem hj,by simp [e]⟩
        simp only [e]
        simp
        omega
      unfold X9;omega
def up (above:List Int) (i:Nat):Nat:=(above.getD i 0).toNat
structure UF (n:Nat) (above:List Int):Prop where
  len:above.length=400
  le:∀ i,i < n→0≤above.getD i 0∧above.getD i 0≤(i:Int)
  n400:n≤400
def rt (above:List Int):Nat→Nat→Nat
  | 0,i=>i
  | k+1,i=>if up above i=i then i else rt above k (up above i)
def root (above:List Int) (i:Nat):Nat:=rt above (i+1) i
theorem UF.up_le {n:Nat} {above:List Int} (h:UF n above) {i:Nat} (hi:i < n):up above i≤i:=by
  have:=h.le i hi;unfold up;omega
theorem UF.rt_eq {n:Nat} {above:List Int} (h:UF n above):∀ (k k' i:Nat),i < n→i < k→i < k'→rt above k i=rt above k' i
  | 0,_,i,_,h1,_=>by omega
  | _,0,i,_,_,h1=>by omega
  | k+1,k'+1,i,hi,h1,h2=>by
    simp only [rt]
    split
    · rfl
    · have:=h.up_le hi
      exact h.rt_eq k k' (up above i) (by omega) (by omega) (by omega)
theorem UF.root_eq {n:Nat} {above:List Int} (h:UF n above) {i:Nat} (hi:i < n):root above i=if up above i=i then i else root above (up above i):=by
  show (if up above i=i then i else rt above i (up above i))=_
  have hu:=h.up_le hi
  split
  · rfl
  · exact h.rt_eq i (up above i+1) (up above i) (by omega) (by omega) (by omega)
theorem UF.root_le {n:Nat} {above:List Int} (h:UF n above):∀ (i:Nat),i < n→root above i≤i:=by
  intro i
  induction i using Nat.strongRecOn with
  | _ i ih=>
    intro hi
    rw [h.root_eq hi]
    have hu:=h.up_le hi
    split
    · exact Nat.le_refl _
    · have:=ih (up above i) (by omega) (by omega);omega
theorem UF.root_up {n:Nat} {above:List Int} (h:UF n above):∀ (i:Nat),i < n→up above (root above i)=root above i:=by
  intro i
  induction i using Nat.strongRecOn with
  | _ i ih=>
    intro hi
    rw [h.root_eq hi]
    have hu:=h.up_le hi
    split
    · assumption
    · exact ih (up above i) (by omega) (by omega)
theorem UF.root_root {n:Nat} {above:List Int} (h:UF n above) {i:Nat} (hi:i < n):root above (root above i)=root above i:=by
  have h1:=h.root_up i hi
  have h2:=h.root_le i hi
  rw [h.root_eq (i:=root above i) (by omega),if_pos h1]
theorem zff {above:List Int} {k i:Nat} {v:Int} (hk:k < above.length):up (above.set k v) i=if i=k then v.toNat else up above i:=by
  unfold up
  rw [List.getD_eq_getElem?_getD,List.getD_eq_getElem?_getD,List.getElem?_set]
  by_cases h:k=i
  · subst h;simp [hk]
  · rw [if_neg h,if_neg (fun e=>h e.symm)]
theorem UF.set {n:Nat} {above:List Int} (h:UF n above) {k:Nat} {v:Int} (hv:0≤v) (hv2:v≤k):UF n (above.set k v):=by
  refine ⟨by simp [h.len],fun i hi => ?_,h.n400⟩
  rw [List.getD_eq_getElem?_getD,List.getElem?_set]
  by_cases e:k=i
  · subst e
    rw [if_pos rfl]
    have:=h.n400
    rw [if_pos (by rw [h.len];omega)]
    exact ⟨hv,hv2⟩
  · rw [if_neg e,←List.getD_eq_getElem?_getD]
    exact h.le i hi
theorem UF.compress {n:Nat} {above:List Int} (h:UF n above) {k:Nat} (hk:k < n):UF n (above.set k (root above k:Int))∧∀ i,i < n→root (above.set k (root above k:Int)) i=root above i:=by
  have hle:=h.root_le k hk
  have h':UF n (above.set k (root above k:Int)):=h.set (by omega) (by omega)
  refine ⟨h',fun i => ?_⟩
  have hkl:k < above.length:=by rw [h.len];have:=h.n400;omega
  induction i using Nat.strongRecOn with
  | _ i ih=>
    intro hi
    rw [h'.root_eq hi,zff hkl]
    by_cases e:i=k
    · subst e
      rw [if_pos rfl]
      simp only [Int.toNat_natCast]
      split
      · rename_i e2;exact e2.symm
      · have:root above i < i:=by omega
        rw [ih (root above i) this (by omega),h.root_root hi]
    · rw [if_neg e,h.root_eq hi]
      have hu:=h.up_le hi
      split
      · rfl
      · exact ih (up above i) (by omega) (by omega)
theorem UF.join {n:Nat} {above:List Int} (h:UF n above) {a b:Nat} (ha:a < n) (hb:b≤a) (hra:root above a=a) (hrb:root above b=b):UF n (above.set a (b:Int))∧∀ i,i < n→root (above.set a (b:Int)) i=if root above i=a then b else root above i:=by
  have h':UF n (above.set a (b:Int)):=h.set (by omega) (by omega)
  refine ⟨h',fun i => ?_⟩
  have hkl:a < above.length:=by rw [h.len];have:=h.n400;omega
  have hua:up above a=a:=by have:=h.root_up a ha;rw [hra] at this;exact this
  have hub:up above b=b:=by have:=h.root_up b (by omega);rw [hrb] at this;exact this
  induction i using Nat.strongRecOn with
  | _ i ih=>
    intro hi
    rw [h'.root_eq hi,zff hkl]
    by_cases e:i=a
    · subst e
      rw [if_pos rfl,hra,if_pos rfl]
      simp only [Int.toNat_natCast]
      split
      · rename_i e2;exact e2.symm
      · rw [ih b (by omega) (by omega),hrb]
        split
        · rfl
        · rfl
    · rw [if_neg e]
      have hu:=h.up_le hi
      split
      · rename_i e2
        have:root above i=i:=by rw [h.root_eq hi,if_pos e2]
        rw [this,if_neg e]
      · rename_i e2
        have:root above i=root above (up above i):=by rw [h.root_eq hi,if_neg e2]
        rw [this]
        exact ih (up above i) (by omega) (by omega)
theorem kl {above:List Int} {k:Nat} (hk:k < above.length):above[k]?=some (above.getD k 0):=by
  rw [List.getD_eq_getElem?_getD,List.getElem?_eq_getElem hk];rfl
structure SameR (n:Nat) (above above':List Int):Prop where
  uf:UF n above'
  eq:∀ i,i < n→root above' i=root above i
theorem za8 {n:Nat}:∀ (k i:Nat) (above:List Int),UF n above→i < n→i < k→∃ above',jT k (i:Int) above=some ((root above i:Int),above')∧SameR n above above'
  | 0,i,above,_,_,h=>by omega
  | k+1,i,above,h,hi,hik=>by
    have h400:=h.n400
    have hl:=h.len
    have hle:=h.le i hi
    simp only [jT]
    unfold Xf
    have e1:zh 400 (i:Int)=some i:=zL (by omega)
    simp only [e1,Option.bind_some,kl (show i < above.length by omega)]
    by_cases e:above.getD i 0=(i:Int)
    · have hb:(above.getD i 0 == (i:Int))=true:=by rw [e];simp
      rw [hb]
      simp only [cond_true,Option.bind_some,kl (show i < above.length by omega)]
      have hr:root above i=i:=by rw [h.root_eq hi,if_pos (by unfold up;omega)]
      exact ⟨above,by rw [hr,e],h,fun _ _=>rfl⟩
    · have hb:(above.getD i 0 == (i:Int))=false:=beq_eq_false_iff_ne.2 e
      rw [hb]
      simp only [cond_false,Option.bind_some]
      have hup:above.getD i 0=(up above i:Int):=by unfold up;omega
      have hult:up above i < i:=by unfold up;omega
      obtain ⟨a1,h1,h2⟩:=za8 k (up above i) above h (by omega) (by omega)
      have hre:root above i=root above (up above i):=by rw [h.root_eq hi,if_neg (by omega)]
      have hl1:=h2.uf.len
      rw [hup,h1]
      simp only [Option.bind_some,kl (show i < a1.length by omega)]
      have hri:root a1 i=root above (up above i):=by rw [h2.eq i hi,hre]
      obtain ⟨c1,c2⟩:=h2.uf.compress hi
      rw [hri] at c1 c2
      rw [List.getElem?_set_self (by omega)]
      simp only [Option.bind_some]
      exact ⟨_,by rw [hre],c1,fun j hj=>by rw [c2 j hj,h2.eq j hj]⟩
theorem za9 {n i:Nat} {above:List Int} (h:UF n above) (hi:i < n):xd (i:Int) above=jT (i+1) (i:Int) above:=by
  obtain ⟨a1,h1,h2⟩:=za8 (i+1) i above h hi (Nat.lt_succ_self _)
  have key:∀ (k k' i:Nat) (above:List Int),UF n above→i < n→i < k→i < k'→jT k (i:Int) above=jT k' (i:Int) above:=by
    intro k
    induction k with
    | zero=>intro k' i above _ _ h;omega
    | succ k ih=>
      intro k' i above h hi h1 h2
      cases k' with
      | zero=>omega
      | succ k'=>
        have h400:=h.n400
        have hl:=h.len
        have hle:=h.le i hi
        simp only [jT]
        unfold Xf
        have e1:zh 400 (i:Int)=some i:=zL (by omega)
        simp only [e1,Option.bind_some,kl (show i < above.length by omega)]
        cases hb:(above.getD i 0 == (i:Int)) with
        | true=>rfl
        | false=>
          have e:=beq_eq_false_iff_ne.1 hb
          have hup:above.getD i 0=(up above i:Int):=by unfold up;omega
          have hult:up above i < i:=by unfold up;omega
          simp only [cond_false]
          rw [hup,ih k' (up above i) above h (by omega) (by omega) (by omega)]
  rw [h1]
  unfold xd
  exact ziH (i+1) fun k' hk=>by rw [key k' (i+1) i above h hi (by omega) (by omega)];exact h1
theorem JM {n i:Nat} {above:List Int} (h:UF n above) (hi:i < n):∃ above',xd (i:Int) above=some ((root above i:Int),above')∧SameR n above above':=by
  rw [za9 h hi]
  exact za8 (i+1) i above h hi (Nat.lt_succ_self _)
theorem zjM {n i j:Nat} {above:List Int} (h:UF n above) (hi:i < n) (hj:j < n):∃ above',wv (i:Int) (j:Int) above=some above'∧UF n above'∧root above' i=root above' j∧(∀ x y,x < n→y < n→root above x=root above y→root above' x=root above' y)∧∀ x y,x < n→y < n→root above' x=root above' y→root above x=root above y∨((root above x=root above i∨root above x=root above j)∧(root above y=root above i∨root above y=root above j)):=by
  unfold wv
  obtain ⟨a1,e1,s1⟩:=JM h hi
  obtain ⟨a2,e2,s2⟩:=JM s1.uf hj
  obtain ⟨a3,e3,s3⟩:=JM s2.uf hi
  obtain ⟨a4,e4,s4⟩:=JM s3.uf hj
  have r2:root a1 j=root above j:=s1.eq j hj
  have r3:root a2 i=root above i:=by rw [s2.eq i hi,s1.eq i hi]
  have r4:root a3 j=root above j:=by rw [s3.eq j hj,s2.eq j hj,r2]
  have heq:∀ x,x < n→root a4 x=root above x:=fun x hx=>by rw [s4.eq x hx,s3.eq x hx,s2.eq x hx,s1.eq x hx]
  rw [r2] at e2
  rw [r3] at e3
  rw [r4] at e4
  simp only [e1,Option.bind_some,e2,e3,e4]
  have hli:=h.root_le i hi
  have hlj:=h.root_le j hj
  have h400:=h.n400
  have hl4:=s4.uf.len
  have rri:root a4 (root above i)=root above i:=by rw [heq _ (by omega),h.root_root hi]
  have rrj:root a4 (root above j)=root above j:=by rw [heq _ (by omega),h.root_root hj]
  have main:∀ a b:Nat,a < n→b≤a→root a4 a=a→root a4 b=b→(a=root above i∧b=root above j∨a=root above j∧b=root above i) →
      ∃ above',(Option.bind (zh 400 (a:Int)) fun k1=>Option.bind (a4[k1]?) fun e1=>some (a4.set k1 (b:Int)))=some above'∧UF n above'∧root above' i=root above' j∧(∀ x y,x < n→y < n→root above x=root above y→root above' x=root above' y)∧∀ x y,x < n→y < n→root above' x=root above' y→root above x=root above y∨((root above x=root above i∨root above x=root above j)∧(root above y=root above i∨root above y=root above j)):=fun a b ha hb ra rb hc=>by
    obtain ⟨u1,u2⟩:=s4.uf.join ha hb ra rb
    refine ⟨_,by rw [zL (by omega)];simp only [Option.bind_some,kl (show a < a4.length by omega)],u1,?_,fun x y hx hy hxy => ?_,fun x y hx hy hxy => ?_⟩
    · rw [u2 i hi,u2 j hj,heq i hi,heq j hj]
      rcases hc with ⟨c1,c2⟩ | ⟨c1,c2⟩
      · rw [if_pos c1.symm]
        split
        · rfl
        · exact c2
      · rw [if_pos c1.symm]
        split
        · rfl
        · exact c2.symm
    · rw [u2 x hx,u2 y hy,heq x hx,heq y hy,hxy]
    · rw [u2 x hx,u2 y hy,heq x hx,heq y hy] at hxy
      by_cases e1:root above x=a
      · rw [if_pos e1] at hxy
        by_cases e2:root above y=a
        · exact .inl (e1.trans e2.symm)
        · rw [if_neg e2] at hxy
          right
          rcases hc with ⟨c1,c2⟩ | ⟨c1,c2⟩
          · exact ⟨.inl (by omega),.inr (by omega)⟩
          · exact ⟨.inr (by omega),.inl (by omega)⟩
      · rw [if_neg e1] at hxy
        by_cases e2:root above y=a
        · rw [if_pos e2] at hxy
          right
          rcases hc with ⟨c1,c2⟩ | ⟨c1,c2⟩
          · exact ⟨.inr (by omega),.inl (by omega)⟩
          · exact ⟨.inl (by omega),.inr (by omega)⟩
        · rw [if_neg e2] at hxy
          exact .inl hxy
  by_cases hlt:root above i < root above j
  · rw [if_pos (by omega),if_neg (by omega)]
    exact main _ _ (by omega) (by omega) rrj rri (.inr ⟨rfl,rfl⟩)
  · rw [if_neg (by omega)]
    by_cases hlt2:root above j < root above i
    · rw [if_pos (by omega)]
      exact main _ _ (by omega) (by omega) rri rrj (.inl ⟨rfl,rfl⟩)
    · have:root above i=root above j:=by omega
      rw [if_neg (by omega)]
      exact main _ _ (by omega) (by omega) rri rri (.inl ⟨rfl,this⟩)
structure RootFn (n:Nat) (ρ:Nat→Nat):Prop where
  le:∀ x,x < n→ρ x≤x
  idem:∀ x,x < n→ρ (ρ x)=ρ x
def jC (ρ:Nat→Nat) (i:Nat):List Nat:=(List.range i).filter (fun x=>ρ x == x)
def xt (ρ:Nat→Nat) (r i:Nat):List Int:=((List.range i).filter (fun x=>ρ x == r)).map fun x:Nat=>(x:Int)
def qc (ρ:Nat→Nat) (i:Nat):List (List Int):=(jC ρ i).map fun r=>xt ρ r i
theorem ZE (ρ:Nat→Nat) (i:Nat):jC ρ (i+1)=if ρ i=i then jC ρ i++[i] else jC ρ i:=by
  unfold jC
  rw [List.range_succ,List.filter_append]
  by_cases h:ρ i=i<;>simp [h]
theorem Zw (ρ:Nat→Nat) (r i:Nat):xt ρ r (i+1)=if ρ i=r then xt ρ r i++[(i:Int)] else xt ρ r i:=by
  unfold xt
  rw [List.range_succ,List.filter_append]
  by_cases h:ρ i=r<;>simp [h]
theorem ve {ρ:Nat→Nat} {i r:Nat}:r∈jC ρ i↔r < i∧ρ r=r:=by simp [jC]
theorem jN {ρ:Nat→Nat} {r i:Nat} {x:Int}:x∈xt ρ r i↔0≤x∧x < i∧ρ x.toNat=r:=by
  simp only [xt,List.mem_map,List.mem_filter,List.mem_range,beq_iff_eq]
  constructor
  · rintro ⟨y,⟨h1,h2⟩,rfl⟩;exact ⟨by omega,by omega,by simpa using h2⟩
  · rintro ⟨h1,h2,h3⟩;exact ⟨x.toNat,⟨by omega,h3⟩,by omega⟩
theorem zba (ρ:Nat→Nat) (i:Nat):(jC ρ i).Nodup:=List.Pairwise.sublist List.filter_sublist List.nodup_range
theorem zdy (ρ:Nat→Nat) (i:Nat):(jC ρ i).Pairwise (· < ·):=List.Pairwise.sublist List.filter_sublist List.pairwise_lt_range
theorem Y1 {ρ:Nat→Nat} {r:Nat} (hr:ρ r=r):∀ {i:Nat},r < i→(jC ρ i)[(jC ρ r).length]?=some r
  | 0,h=>by omega
  | i+1,h=>by
    rw [ZE]
    rcases Nat.lt_or_ge r i with h1 | h1
    · have ih:=Y1 hr h1
      split
      · rw [List.getElem?_append_left (List.getElem?_eq_some_iff.1 ih).1];exact ih
      · exact ih
    · obtain rfl:r=i:=by omega
      rw [if_pos hr];simp
theorem map_set {α β:Type} {f g:α→β} {v:β}:∀ {l:List α} {p:Nat} {r:α},l.Nodup→l[p]?=some r→g r=v→(∀ x∈l,x≠r→g x=f x)→(l.map f).set p v=l.map g
  | [],p,r,_,h,_,_=>by simp at h
  | x::l,0,r,hn,h,hv,hg=>by
    simp at h
    subst h
    simp only [List.map_cons,List.set_cons_zero,hv]
    congr 1
    refine List.map_congr_left fun y hy=>(hg y (by simp [hy]) fun e => ?_).symm
    subst e
    exact (List.nodup_cons.1 hn).1 hy
  | x::l,p+1,r,hn,h,hv,hg=>by
    simp only [List.getElem?_cons_succ] at h
    simp only [List.map_cons,List.set_cons_succ]
    rw [map_set (List.nodup_cons.1 hn).2 h hv (fun y hy=>hg y (by simp [hy]))]
    rw [hg x (by simp) (fun e=>by subst e;exact (List.nodup_cons.1 hn).1 (List.mem_of_getElem? h))]
theorem xZ {β:Type} (a b:Int) (v:β):∀ es:List (Int×β),zp a (zQ b v es)=if a=b then some v else zp a es
  | []=>by simp only [zQ,zp]
  | (k,w)::r=>by
    have ih:=xZ a b v r
    simp only [zQ]
    by_cases h:b=k
    · subst h
      simp only [if_pos,zp]
      by_cases h2:a=b
      · simp [h2]
      · simp [h2]
    · rw [if_neg h]
      simp only [zp,ih]
      by_cases h2:a=k
      · subst h2;rw [if_pos rfl,if_neg (fun e=>h e.symm),if_pos rfl]
      · rw [if_neg h2,if_neg h2]
structure GInv (n:Nat) (above:List Int) (i:Nat) (s:List (List Int)×List (Int×Int)×List Int):Prop where
  same:SameR n above s.2.2
  parts:s.1=qc (root above) i
  places:∀ r:Nat,r < i→root above r=r→zp (r:Int) s.2.1=some ((jC (root above) r).length:Int)
theorem zfg {n:Nat} {above:List Int} (h:UF n above):RootFn n (root above):=⟨h.root_le,fun _ hx=>h.root_root hx⟩
theorem zdz {n i:Nat} {ρ:Nat→Nat} (R:RootFn n ρ) (hi:i < n) (h:ρ i=i):qc ρ (i+1)=qc ρ i++[[(i:Int)]]:=by
  unfold qc
  rw [ZE,if_pos h,List.map_append]
  congr 1
  · refine List.map_congr_left fun r hr => ?_
    rw [ve] at hr
    rw [Zw,if_neg (by omega)]
  · simp only [List.map_cons,List.map_nil]
    rw [Zw,if_pos h]
    have:xt ρ i i=[]:=List.eq_nil_iff_forall_not_mem.2 fun x hx=>by
      rw [jN] at hx
      have:=R.le x.toNat (by omega)
      omega
    rw [this];rfl
theorem zdA {n i:Nat} {ρ:Nat→Nat} (R:RootFn n ρ) (hi:i < n) (h:ρ i≠i):(qc ρ i)[(jC ρ (ρ i)).length]?=some (xt ρ (ρ i) i)∧qc ρ (i+1)=(qc ρ i).set (jC ρ (ρ i)).length (xt ρ (ρ i) i++[(i:Int)]):=by
  have hle:=R.le i hi
  have hat:=Y1 (ρ:=ρ) (R.idem i hi) (i:=i) (by omega)
  refine ⟨by unfold qc;rw [List.getElem?_map,hat];rfl,?_⟩
  unfold qc
  rw [ZE,if_neg h]
  refine (map_set (zba ρ i) hat ?_ fun r hr hne => ?_).symm
  · show xt ρ (ρ i) (i+1)=_
    rw [Zw,if_pos rfl]
  · show xt ρ r (i+1)=_
    rw [Zw,if_neg (fun e=>hne e.symm)]
theorem zgE {n:Nat} {above:List Int} (h:UF n above):∃ ab,xH (n:Int) above=some (qc (root above) n,ab):=by
  have h400:=h.n400
  have R:=zfg h
  unfold xH
  have hg:decide ((n:Int)≤1000000000000)=true:=by simp only [decide_eq_true_eq];omega
  rw [hg]
  simp only [cond_true]
  have:Ret (forR (σ:=List (List Int)×List (Int×Int)×List Int) (ρ:=Unit) (n:Int) xj ([],[],above)) (fun o=>match o with | .inl s=>GInv n above n s | .inr _=>False):=by
    refine Ret.forL (GInv n above) (by omega) ⟨⟨h,fun _ _=>rfl⟩,rfl,fun r hr=>by omega⟩ ?_ (fun s hs=>hs)
    rintro i ⟨Ls,es,ab⟩ hi ⟨g1,g2,g3⟩
    simp only at g1 g2 g3
    unfold xj
    obtain ⟨ab',e1,e2⟩:=JM g1.uf hi
    rw [g1.eq i hi] at e1
    have hsame:SameR n above ab':=⟨e2.uf,fun j hj=>by rw [e2.eq j hj,g1.eq j hj]⟩
    simp only [e1,Option.bind_some]
    have hle:=R.le i hi
    by_cases he:root above i=i
    · have hb:((root above i:Int) == (i:Int))=true:=by rw [he];simp
      rw [hb]
      refine Ret.some ⟨hsame,?_,fun r hr hrr => ?_⟩
      · show Ls++[[(i:Int)]]=_
        rw [zdz R hi he,g2]
      · show zp (r:Int) (zQ (i:Int) (Ls.length:Int) es)=_
        rw [xZ]
        split
        · rename_i e3
          obtain rfl:r=i:=by omega
          rw [g2];simp [qc]
        · exact g3 r (by omega) hrr
    · have hb:((root above i:Int) == (i:Int))=false:=by rw [beq_eq_false_iff_ne];omega
      rw [hb]
      obtain ⟨o1,o2⟩:=zdA R hi he
      have hpl:=g3 (root above i) (by omega) (R.idem i hi)
      simp only [cond_false,hpl,Option.getD_some]
      rw [zO,g2,o1]
      simp only [Option.bind_some,Int.toNat_natCast]
      exact Ret.some ⟨hsame,o2.symm,fun r hr hrr=>g3 r (by
        rcases Nat.lt_or_ge r i with h5 | h5
        · exact h5
        · obtain rfl:r=i:=by omega
          exact absurd hrr he) hrr⟩
  obtain ⟨o,h1,h2⟩:=this
  rw [h1]
  cases o with
  | inl s=>exact ⟨s.2.2,by simp only [Option.bind_some,Sum.elim_inl];rw [←h2.parts]⟩
  | inr _=>exact h2.elim
end Go.Proofs.YtjkljacdbljkpaaGreatDoor
