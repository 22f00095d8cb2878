/-
  What 'system.Step' does.
  What an act does.
  'system.Step': what it returns.
  'arena.Moves' and 'arena.After': what they return.
  'arena.After'; 'Few', 'Tame', 'Doer'.
  The text of a position tells it from every other position of the same contract.
  A search through positions, breadth first: what is known of it.
  'arena.From': what it returns.
  'system.Start', 'arena.Build', 'Index'.
  What an arena holds: closed under moves, and all that can be reached.
  region.Ranks: what it returns for an arena is the number of moves in which a breach can be forced.
  region.Ranks: the queue.
  region.Ranks: all of it.
  A clause that has ended stays as it is; a breach stays a breach.
  RegionBreach: a breach is never left.
  What can be forced from a position, told without an arena.
  What a shield and a doom prove, told without the program.
  Ranks of positions; the shield and the doom that an arena gives.
  A table that keeps the least rank of the rows with a position.
  The functions Moves and After.
  'witness.CheckShield' and 'witness.CheckDoom': what they decide.
  Functions of the program as the kernel reckons them: with fuel, and texts of small numbers. Printed by mkheads.py.
-/
import Derived.Test.YtmoedieenlaegaaGreatDoorWF10
import Derived.Test.YtmoedieenlaegaaGreatDoorWF06
namespace Go.Proofs.YtmoedieenlaegaaGreatDoor
open Go.RowKit
set_option linter.unusedSimpArgs false
set_option linter.unusedVariables false
set_option maxRecDepth 100000
def jF (m:MarkT):Bool:=m.status == 1||m.status == 2
theorem yR (m:MarkT):jc m=some (jF m):=by
  simp only [jc,zj,Option.bind_some,jF];cases (m.status == 1)<;>rfl
def ki (st:Int) (m:MarkT):MarkT:={m with status:=st,left:=0,paused:=false}
def vM (free:Bool) (k:ClauseT) (m:MarkT):MarkT:=
  bif jF m then (bif m.paused||(k.business&&free) then m else
    bif m.left - 1 == 0 then (bif k.kind == 1 then (bif m.status == 1&&decide (0 < k.grace) then {m with status:=2,left:=k.grace} else ki 4 m) else bif k.kind == 2 then ki 3 m else ki 5 m)
    else {m with left:=m.left - 1}) else m
def atK (c:ContractT) (F:ClauseT→MarkT→MarkT) (i:Nat) (m:MarkT):MarkT:=match c.clauses[i]? with | some k=>F k m | none=>m
structure RunV (c:ContractT) (k:ClauseT) (m:MarkT):Prop where
  waived:k.waived=false
  left:1≤m.left∧m.left≤400
  paused:m.paused=true→k.pause ≠ -1
  got:m.got=0∨(k.kind=1∧0≤m.got∧m.got < k.need)
  bearer:(k.kind=4∧m.bearer = -1)∨(k.kind≠4∧0≤m.bearer∧m.bearer < c.parties)
theorem qY {p:Int} {k:ClauseT} {m:MarkT}:yr p k m=true↔k.waived=false∧1≤m.left∧(m.paused=true→k.pause ≠ -1)∧(m.got=0∨(k.kind=1∧0≤m.got∧m.got < k.need))∧((k.kind=4∧m.bearer = -1)∨(k.kind≠4∧0≤m.bearer∧m.bearer < p)):=by
  simp only [yr,Bool.and_eq_true,Bool.not_eq_true',Bool.or_eq_false_iff,decide_eq_false_iff_not,Bool.or_eq_true,beq_iff_eq]
  have e1:(m.paused&&k.pause == -1)=false↔(m.paused=true→k.pause ≠ -1):=by cases m.paused<;>simp
  have e2:(bif k.kind == 4 then m.bearer == -1 else decide (0≤m.bearer)&&decide (m.bearer < p))=true↔((k.kind=4∧m.bearer = -1)∨(k.kind≠4∧0≤m.bearer∧m.bearer < p)):=by
    cases h:(k.kind == 4) with
    | true=>have:=beq_iff_eq.1 h;simp [this]
    | false=>have:=beq_eq_false_iff_ne.1 h;simp [this]
  rw [e1,e2]
  constructor
  · rintro ⟨⟨a,b,d⟩,e,f⟩;exact ⟨a,by omega,d,by omega,f⟩
  · rintro ⟨a,b,d,e,f⟩;exact ⟨⟨a,by omega,d⟩,by omega,f⟩
theorem wC {p:Int} {k:ClauseT} {m:MarkT}:q9 p k m=true↔(m.status=0∧k.waived=false∧Vl m=true)∨(m.status=1∧m.left≤k.after∧yr p k m=true)∨(m.status=2∧k.kind=1∧m.left≤k.grace∧yr p k m=true)∨((m.status=3∨m.status=4∨m.status=5)∧zaI p m=true):=by
  unfold q9
  by_cases h0:m.status=0
  · simp [h0]
  by_cases h1:m.status=1
  · simp [h1]
  by_cases h2:m.status=2
  · simp [h2]
  have e0:(m.status == 0)=false:=beq_eq_false_iff_ne.2 h0
  have e1:(m.status == 1)=false:=beq_eq_false_iff_ne.2 h1
  have e2:(m.status == 2)=false:=beq_eq_false_iff_ne.2 h2
  simp [e0,e1,e2,h0,h1,h2]
theorem xU {c:ContractT} {i:Nat} {k:ClauseT} {m:MarkT} (kv:KV c i k) (h:q9 c.parties k m=true) (hr:jF m=true):RunV c k m∧yr c.parties k m=true∧(m.status=1∧m.left≤k.after∨m.status=2∧k.kind=1∧m.left≤k.grace):=by
  simp only [jF,Bool.or_eq_true,beq_iff_eq] at hr
  have ha:=kv.after
  have hg:=kv.grace
  rcases wC.1 h with ⟨h0,_⟩ | ⟨h0,h1,h2⟩ | ⟨h0,h1,h2,h3⟩ | ⟨h0,_⟩
  · omega
  · obtain ⟨a,b,d,e,f⟩:=qY.1 h2
    exact ⟨⟨a,⟨b,by omega⟩,d,e,f⟩,h2,.inl ⟨h0,h1⟩⟩
  · obtain ⟨a,b,d,e,f⟩:=qY.1 h3
    exact ⟨⟨a,⟨b,by omega⟩,d,e,f⟩,h3,.inr ⟨h0,h1,h2⟩⟩
  · omega
theorem kL {c:ContractT} {i:Nat} {k:ClauseT} {m:MarkT} {st:Int} (kv:KV c i k) (rv:RunV c k m) (hp:0 < c.parties) (hst:st=3∨st=4∨st=5):q9 c.parties k (ki st m)=true:=by
  refine wC.2 (.inr (.inr (.inr ⟨hst,?_⟩)))
  have h1:=rv.got
  have h2:=rv.bearer
  have h3:=kv.need
  have e1:decide (0≤m.got)=true:=decide_eq_true (by omega)
  have e2:decide (m.got≤9)=true:=decide_eq_true (by omega)
  have e3:decide (-1≤m.bearer)=true:=decide_eq_true (by omega)
  have e4:decide (m.bearer < c.parties)=true:=decide_eq_true (by omega)
  show ((0:Int) == 0&&(decide (0≤m.got)&&(decide (m.got≤9)&&(decide (-1≤m.bearer)&&(decide (m.bearer < c.parties) && !false)))))=true
  rw [e1,e2,e3,e4];rfl
theorem vS {c:ContractT} {k:ClauseT} {m:MarkT} (h:(m.status=1∧m.left≤k.after)∨(m.status=2∧k.kind=1∧m.left≤k.grace)) (hr:yr c.parties k m=true):q9 c.parties k m=true:=by
  rcases h with ⟨h0,h1⟩ | ⟨h0,h1,h2⟩
  · exact wC.2 (.inr (.inl ⟨h0,h1,hr⟩))
  · exact wC.2 (.inr (.inr (.inl ⟨h0,h1,h2,hr⟩)))
theorem MOk.mapIdx {c:ContractT} {ms:List MarkT} (F:ClauseT→MarkT→MarkT) (h:MOk c ms) (hF:∀ (i:Nat) (k:ClauseT) (m:MarkT),c.clauses[i]?=some k→q9 c.parties k m=true→q9 c.parties k (F k m)=true):MOk c (ms.mapIdx (atK c F)):=by
  refine ⟨by simpa using h.1,fun i k m hk hm => ?_⟩
  rw [List.getElem?_mapIdx] at hm
  obtain ⟨m0,h0,rfl⟩:=Option.map_eq_some_iff.1 hm
  simp only [atK,hk]
  exact hF i k m0 hk (h.2 i k m0 hk h0)
theorem zds {c:ContractT} {i:Nat} {k:ClauseT} {m:MarkT} (free:Bool) (kv:KV c i k) (hp:0 < c.parties) (h:q9 c.parties k m=true):q9 c.parties k (vM free k m)=true:=by
  unfold vM
  cases hr:jF m with
  | false=>exact h
  | true=>
    obtain ⟨rv,hb,hs⟩:=xU kv h hr
    simp only [cond_true]
    cases hp1:(m.paused||(k.business&&free)) with
    | true=>exact h
    | false=>
      simp only [cond_false]
      have hl:=rv.left
      obtain ⟨b1,b2,b3,b4,b5⟩:=qY.1 hb
      cases hz:(m.left - 1 == 0) with
      | false=>
        have:=beq_eq_false_iff_ne.1 hz
        refine vS ?_ (qY.2 ⟨b1,?_,b3,b4,b5⟩)
        · simp only [cond_false];omega
        · simp only [cond_false];omega
      | true=>
        simp only [cond_true]
        cases h1:(k.kind == 1) with
        | false=>
          cases h2:(k.kind == 2) with
          | true=>exact kL kv rv hp (by omega)
          | false=>exact kL kv rv hp (by omega)
        | true=>
          simp only [cond_true]
          cases h3:(m.status == 1&&decide (0 < k.grace)) with
          | false=>exact kL kv rv hp (by omega)
          | true=>
            simp only [Bool.and_eq_true,beq_iff_eq,decide_eq_true_eq] at h3
            exact vS (.inr ⟨rfl,beq_iff_eq.1 h1,Int.le_refl _⟩) (qY.2 ⟨b1,by simp only [cond_true];omega,b3,b4,b5⟩)
theorem jw {α:Type} {s:List α} {i:Nat} {m:α} (h:s[i]?=some m):s.set i m=s:=by
  obtain ⟨hi,rfl⟩:=List.getElem?_eq_some_iff.1 h
  exact List.set_getElem_self hi
theorem wD {α:Type} {s:List α} {i:Nat} {m x:α} (h:s[i]?=some m):(s.set i x)[i]?=some x:=by
  have:=(List.getElem?_eq_some_iff.1 h).1
  simp [this]
theorem QH (i:Nat) (st:Int) (c:ContractT) (p4:Int) (p5:List Int) (p6:Nat) (p7:List Bool) (p8:Nat) (ms:List MarkT) (n:Nat) (m:MarkT) (hi:i < n) (hm:ms[i]?=some m):xo i st c p4 p5 p6 p7 p8 ms n=some (ms.set i (ki st m)):=by
  unfold xo
  simp only [jt hi,Option.bind_some,hm,List.set_set,ki]
theorem zeN (c:ContractT) (day:Int) (hs:List Int) (us:List Bool) (ms:List MarkT) (ho:c.off.length < 4611686018427387904) (hv:(qq c).1=0) (hm:MOk c ms) (hday:0≤day∧day≤2000) :
    d_70a c day hs hs.length us us.length ms ms.length=vA c (day+1) hs us (ms.mapIdx (atK c (vM (xg c.off day).isSome))):=by
  have sm:=qX ho hv
  have hcl:=sm.clauses
  have hl:=hm.1
  unfold d_70a
  obtain ⟨r,hr,_⟩:=X0 c.off day (zge ho hv) ho
  rw [hr]
  simp only [Option.bind_some,jM]
  rw [wW ms (atK c (vM (xg c.off day).isSome)) (by omega) ?_]
  · simp only [Option.bind_some,Sum.elim_inl]
    rw [qI (by omega) (by omega)]
    unfold vA
    rw [List.length_mapIdx]
    generalize xG _ _ _ _ _ _ _ _=x
    cases x<;>rfl
  · intro i m s h1 h2 h3
    have hi:i < ms.length:=(List.getElem?_eq_some_iff.1 h1).1
    have hic:i < c.clauses.length:=by omega
    have hk:=List.getElem?_eq_getElem hic
    have kv:=vL ho hv hk
    have hmk:=hm.2 i _ _ hk h1
    simp only [jt hi,Option.bind_some,h3,yR,atK,hk]
    generalize c.clauses[i]=k at hk kv hmk
    cases hrn:jF m with
    | false=>simp only [cond_false,Option.bind_some,vM,hrn,jw h3]
    | true=>
      obtain ⟨rv,hb,hst⟩:=xU kv hmk hrn
      have hleft:=rv.left
      simp only [cond_true,zV hk,Option.bind_some,vM,hrn,zj]
      have epb:(bif m.paused then true else bif k.business then (xg c.off day).isSome else false)=(m.paused||(k.business&&(xg c.off day).isSome)):=by cases m.paused<;>cases k.business<;>rfl
      rw [epb]
      cases hp1:(m.paused||(k.business&&(xg c.off day).isSome)) with
      | true=>simp only [cond_true,Option.bind_some,Bool.not_true,cond_false,jw h3]
      | false=>
        rw [qI (show -9223372036854775808≤m.left - 1 by omega) (by omega)]
        simp only [cond_false,Option.bind_some,wD h3]
        cases hz:(m.left - 1 == 0) with
        | false=>simp only [cond_false,Option.bind_some,Bool.not_true]
        | true=>
          have hz':=beq_iff_eq.1 hz
          have hk0:(k.kind == 0)=false:=beq_eq_false_iff_ne.2 (by have:=kv.kind;omega)
          simp only [cond_true,hk0,cond_false,J5,xH,yL,jt hi,Option.bind_some,wD h3,zV hk,zj]
          rw [QH i 4 _ _ _ _ _ _ _ _ _ hi (wD h3),QH i 3 _ _ _ _ _ _ _ _ _ hi (wD h3),QH i 5 _ _ _ _ _ _ _ _ _ hi (wD h3)]
          simp only [Option.bind_some,List.set_set,ki,hz']
          cases h1:(k.kind == 1) with
          | true=>
            simp only [cond_true]
            have e3:(bif m.status == 1 then decide (0 < k.grace) else false)=(m.status == 1&&decide (0 < k.grace)):=by cases (m.status == 1)<;>rfl
            rw [e3]
            cases h4:(m.status == 1&&decide (0 < k.grace))<;>simp
          | false=>
            cases h2:(k.kind == 2) with
            | true=>simp
            | false=>
              cases h3:(k.kind == 3) with
              | true=>simp
              | false=>
                have h4:(k.kind == 4)=true:=beq_iff_eq.2 (by have:=kv.kind;have:=beq_eq_false_iff_ne.1 h1;have:=beq_eq_false_iff_ne.1 h2;have:=beq_eq_false_iff_ne.1 h3;omega)
                simp [h4]
def kM (act:Int) (k:ClauseT) (m:MarkT):MarkT:=
  bif jF m then (bif act == k.pause then {m with paused:=true} else bif act == k.resume then {m with paused:=false} else m) else m
def zaL (k:ClauseT) (m:MarkT):MarkT:=bif m.got+1 == k.need then ki 3 {m with got:=m.got+1} else {m with got:=m.got+1}
def zdt (k:ClauseT) (m:MarkT):MarkT:=bif k.kind == 1 then zaL k m else bif k.kind == 2 then (bif m.paused then m else ki 4 m) else ki 3 m
def X2 (act by_:Int) (k:ClauseT) (m:MarkT):MarkT:=bif jF m then (bif k.act == act&&(k.kind == 4||m.bearer == by_) then zdt k m else m) else m
def QJ (a:ActT) (k:ClauseT) (m:MarkT):MarkT:=bif jF m then (bif !(k.kind == 4)&&k.role == a.give then {m with bearer:=a.to} else m) else m
def jR (hs:List Int) (a:ActT):Int:=bif a.role == -1 then -1 else hs[a.role.toNat]?.getD 0
theorem zgg (c:ContractT) (s:StateT) (i:Nat) (a:ActT) (ha:c.acts[i]?=some a) (h:a.role = -1∨(0≤a.role∧a.role < s.holders.length)):kB c s i=some (jR s.holders a):=by
  unfold kB jR
  simp only [zV ha,Option.bind_some]
  cases hr:(a.role == -1) with
  | true=>rfl
  | false=>
    have h1:=beq_eq_false_iff_ne.1 hr
    obtain ⟨h2,h3⟩:=qC (l:=s.holders) (n:=a.role) (by omega) (by omega)
    simp only [cond_false,h3,Option.bind_some,List.getElem?_eq_getElem h2,Option.getD_some]
theorem zcv {c:ContractT} {i:Nat} {k:ClauseT} {m:MarkT} {act:Int} (ha:0≤act) (kv:KV c i k) (h:q9 c.parties k m=true):q9 c.parties k (kM act k m)=true:=by
  unfold kM
  cases hr:jF m with
  | false=>exact h
  | true=>
    obtain ⟨rv,hb,hs⟩:=xU kv h hr
    obtain ⟨b1,b2,b3,b4,b5⟩:=qY.1 hb
    simp only [cond_true]
    cases h1:(act == k.pause) with
    | true=>exact vS hs (qY.2 ⟨b1,b2,fun _=>by have:=beq_iff_eq.1 h1;omega,b4,b5⟩)
    | false=>
      cases h2:(act == k.resume) with
      | true=>exact vS hs (qY.2 ⟨b1,b2,fun h=>absurd (show false=true from h) (by decide),b4,b5⟩)
      | false=>exact h
theorem zeO {c:ContractT} {i:Nat} {k:ClauseT} {m:MarkT} {act by_:Int} (hp:0 < c.parties) (kv:KV c i k) (h:q9 c.parties k m=true):q9 c.parties k (X2 act by_ k m)=true:=by
  unfold X2
  cases hr:jF m with
  | false=>exact h
  | true=>
    obtain ⟨rv,hb,hs⟩:=xU kv h hr
    obtain ⟨b1,b2,b3,b4,b5⟩:=qY.1 hb
    simp only [cond_true]
    cases h1:(k.act == act&&(k.kind == 4||m.bearer == by_)) with
    | false=>exact h
    | true=>
      simp only [cond_true,zdt]
      have hn:=kv.need
      cases h2:(k.kind == 1) with
      | true=>
        have hk:=beq_iff_eq.1 h2
        simp only [cond_true,zaL]
        cases h3:(m.got+1 == k.need) with
        | true=>
          have h3':=beq_iff_eq.1 h3
          refine wC.2 (.inr (.inr (.inr ⟨.inl rfl,?_⟩)))
          have e1:decide (0≤m.got+1)=true:=decide_eq_true (by omega)
          have e2:decide (m.got+1≤9)=true:=decide_eq_true (by omega)
          have e3:decide (-1≤m.bearer)=true:=decide_eq_true (by omega)
          have e4:decide (m.bearer < c.parties)=true:=decide_eq_true (by omega)
          show ((0:Int) == 0&&(decide (0≤m.got+1)&&(decide (m.got+1≤9)&&(decide (-1≤m.bearer)&&(decide (m.bearer < c.parties) && !false)))))=true
          rw [e1,e2,e3,e4];rfl
        | false=>
          have h3':=beq_eq_false_iff_ne.1 h3
          refine vS hs (qY.2 ⟨b1,b2,b3,.inr ⟨hk,?_,?_⟩,b5⟩)
          · show 0≤m.got+1;omega
          · show m.got+1 < k.need;omega
      | false=>
        simp only [cond_false]
        cases h3:(k.kind == 2) with
        | true=>
          simp only [cond_true]
          cases m.paused with
          | true=>exact h
          | false=>exact kL kv rv hp (by omega)
        | false=>exact kL kv rv hp (by omega)
theorem zdu {c:ContractT} {i:Nat} {k:ClauseT} {m:MarkT} {a:ActT} (kv:KV c i k) (ht:0≤a.to∧a.to < c.parties) (h:q9 c.parties k m=true):q9 c.parties k (QJ a k m)=true:=by
  unfold QJ
  cases hr:jF m with
  | false=>exact h
  | true=>
    obtain ⟨rv,hb,hs⟩:=xU kv h hr
    obtain ⟨b1,b2,b3,b4,b5⟩:=qY.1 hb
    simp only [cond_true]
    cases h1:(!(k.kind == 4)&&k.role == a.give) with
    | false=>exact h
    | true=>
      simp only [Bool.and_eq_true,Bool.not_eq_true',beq_eq_false_iff_ne] at h1
      exact vS hs (qY.2 ⟨b1,b2,b3,b4,.inr ⟨h1.1,ht.1,ht.2⟩⟩)
def ms1 (c:ContractT) (act:Int) (ms:List MarkT):List MarkT:=ms.mapIdx (atK c (kM act))
def ms2 (c:ContractT) (act:Int) (a:ActT) (hs:List Int) (ms:List MarkT):List MarkT:=(ms1 c act ms).mapIdx (atK c (X2 act (jR hs a)))
def ms3 (c:ContractT) (act:Int) (a:ActT) (hs:List Int) (ms:List MarkT):List MarkT:=bif a.kind == 3 then (ms2 c act a hs ms).mapIdx (atK c (QJ a)) else ms2 c act a hs ms
def hs3 (a:ActT) (hs:List Int):List Int:=bif a.kind == 1 then hs else hs.set a.give.toNat a.to
def us3 (i:Nat) (a:ActT) (us:List Bool):List Bool:=bif a.kind == 1 then us else us.set i true
theorem zcw {c:ContractT} {act:Int} {ms:List MarkT} (ho:c.off.length < 4611686018427387904) (hv:(qq c).1=0) (ha:0≤act) (hm:MOk c ms):MOk c (ms1 c act ms):=
  hm.mapIdx _ fun i k m hk h=>zcv ha (vL ho hv hk) h
theorem Yp {c:ContractT} {act:Int} {a:ActT} {hs:List Int} {ms:List MarkT} (ho:c.off.length < 4611686018427387904) (hv:(qq c).1=0) (ha:0≤act) (hm:MOk c ms):MOk c (ms2 c act a hs ms):=
  (zcw ho hv ha hm).mapIdx _ fun i k m hk h=>zeO (by have:=(qX ho hv).parties;omega) (vL ho hv hk) h
theorem zgh {c:ContractT} {act:Int} {a:ActT} {hs:List Int} {ms:List MarkT} (ho:c.off.length < 4611686018427387904) (hv:(qq c).1=0) (ha:0≤act) (av:AV2 c a) (hm:MOk c ms):MOk c (ms3 c act a hs ms):=by
  unfold ms3
  cases h3:(a.kind == 3) with
  | false=>exact Yp ho hv ha hm
  | true=>
    refine (Yp ho hv ha hm).mapIdx _ fun i k m hk h=>zdu (vL ho hv hk) ?_ h
    have:=beq_iff_eq.1 h3
    have:=av.kind
    omega
theorem zgi (c:ContractT) (day:Int) (hs:List Int) (us:List Bool) (ms:List MarkT) (i:Nat) (a:ActT) (ho:c.off.length < 4611686018427387904) (hv:(qq c).1=0) (hh:hs.length=c.holders.length) (hu:us.length=c.acts.length)
    (ha:c.acts[i]?=some a) (hm:MOk c ms) :
    Zm i c day hs hs.length us us.length ms ms.length=(bif !(a.kind == 1)&&us[i]?.getD false then some (hs,us,ms) else
      (vA c day (hs3 a hs) (us3 i a us) (ms3 c i a hs ms)).bind fun r=>some (hs3 a hs,us3 i a us,r)):=by
  have sm:=qX ho hv
  have hcl:=sm.clauses
  have hl:=hm.1
  have av:=Vm hv ha
  have hia:i < c.acts.length:=(List.getElem?_eq_some_iff.1 ha).1
  have hiu:i < us.length:=by omega
  unfold Zm
  have eU:(bif a.kind == 1 then some false else (Option.bind (zm us.length (i:Int)) fun k1=>(Option.bind (us[k1]?) fun e2=>some e2)))=some (!(a.kind == 1)&&us[i]?.getD false):=by
    simp only [jt hiu,Option.bind_some,List.getElem?_eq_getElem hiu,Option.getD_some]
    cases (a.kind == 1)<;>rfl
  simp only [zV ha,Option.bind_some]
  rw [eU]
  simp only [Option.bind_some]
  cases hearly:(!(a.kind == 1)&&us[i]?.getD false) with
  | true=>rfl
  | false=>
    simp only [cond_false,jM,Option.bind_some]
    rw [wW ms (atK c (kM i)) (by omega) ?p1]
    case p1=>
      intro j m s h1 h2 h3
      have hj:j < ms.length:=(List.getElem?_eq_some_iff.1 h1).1
      have hk:=List.getElem?_eq_getElem (show j < c.clauses.length by omega)
      simp only [jt hj,Option.bind_some,h3,yR,atK,hk,kM]
      generalize c.clauses[j]=k at hk
      cases hrn:jF m with
      | false=>simp only [cond_false,Option.bind_some,jw h3]
      | true=>
        simp only [cond_true,zV hk,Option.bind_some]
        cases ((i:Int) == k.pause) with
        | true=>simp only [cond_true,Option.bind_some,Bool.not_true,cond_false]
        | false=>
          simp only [cond_false]
          cases ((i:Int) == k.resume) with
          | true=>simp only [cond_true,Option.bind_some,Bool.not_true,cond_false]
          | false=>simp only [cond_false,Option.bind_some,Bool.not_true,jw h3]
    simp only [Option.bind_some,Sum.elim_inl]
    show Option.bind (eqN hs.length hs.length) _=_
    simp only [Zs,Option.bind_some,kK (show ms.length=(ms.mapIdx (atK c (kM (i:Int)))).length by simp)]
    rw [zgg c _ i a ha (by have:=av.role;simp only;omega)]
    simp only [Option.bind_some]
    have m1ok:=zcw (act:=(i:Int)) ho hv (by omega) hm
    have hlen1:(ms.length:Int)=((ms1 c i ms).length:Int):=by simp [ms1]
    show Option.bind (Option.bind (forR (ms.length:Int) _ (ms1 c i ms)) _) _=_
    rw [hlen1]
    rw [wW (ms1 c i ms) (atK c (X2 i (jR hs a))) (by simp [ms1];omega) ?p2]
    case p2=>
      intro j m s h1 h2 h3
      have hj1:j < (ms1 c i ms).length:=(List.getElem?_eq_some_iff.1 h1).1
      have hj:j < ms.length:=by simpa [ms1] using hj1
      have hk:=List.getElem?_eq_getElem (show j < c.clauses.length by omega)
      have kv:=vL ho hv hk
      have hmk:=m1ok.2 j _ _ hk h1
      simp only [jt hj,Option.bind_some,h3,yR,atK,hk,X2]
      generalize c.clauses[j]=k at hk kv hmk
      cases hrn:jF m with
      | false=>simp only [cond_false,Option.bind_some,jw h3]
      | true=>
        obtain ⟨rv,hb,hst⟩:=xU kv hmk hrn
        simp only [cond_true,zV hk,Option.bind_some]
        have eT:(bif k.act == (i:Int) then (bif k.kind == 4 then some true else some (m.bearer == jR hs a)) else some false)=some (k.act == (i:Int)&&(k.kind == 4||m.bearer == jR hs a)):=by
          cases (k.act == (i:Int))<;>cases (k.kind == 4)<;>rfl
        rw [eT]
        simp only [Option.bind_some]
        cases (k.act == (i:Int)&&(k.kind == 4||m.bearer == jR hs a)) with
        | false=>simp only [cond_false,Option.bind_some,Bool.not_true,jw h3]
        | true=>
          have hgot:=rv.got
          have hneed:=kv.need
          have hk0:(k.kind == 0)=false:=beq_eq_false_iff_ne.2 (by have:=kv.kind;omega)
          simp only [cond_true,hk0,cond_false,J7,J6,xH,jt hj,Option.bind_some,h3,wD h3,zV hk,zdt,zaL]
          rw [qI (show -9223372036854775808≤m.got+1 by omega) (by omega)]
          rw [QH j 3 _ _ _ _ _ _ _ _ _ hj h3,QH j 3 _ _ _ _ _ _ _ _ _ hj (wD h3),QH j 4 _ _ _ _ _ _ _ _ _ hj h3]
          simp only [Option.bind_some,List.set_set]
          cases e1:(k.kind == 1) with
          | true=>cases (m.got+1 == k.need)<;>simp
          | false=>
            cases e2:(k.kind == 2) with
            | true=>cases m.paused<;>simp [jw h3]
            | false=>
              cases e3:(k.kind == 3) with
              | true=>simp
              | false=>
                have h4:(k.kind == 4)=true:=beq_iff_eq.2 (by have:=kv.kind;have:=beq_eq_false_iff_ne.1 e1;have:=beq_eq_false_iff_ne.1 e2;have:=beq_eq_false_iff_ne.1 e3;omega)
                simp [h4]
    simp only [Option.bind_some,Sum.elim_inl]
    show Option.bind (bif a.kind == 1 then some (hs,us,ms2 c i a hs ms) else _) _=_
    have m2ok:=Yp (act:=(i:Int)) (a:=a) (hs:=hs) ho hv (by omega) hm
    cases h1:(a.kind == 1) with
    | true=>
      have h3:(a.kind == 3)=false:=beq_eq_false_iff_ne.2 (by have:=beq_iff_eq.1 h1;omega)
      simp only [cond_true,Option.bind_some,hs3,us3,ms3,h1,h3,cond_false]
      unfold vA
      rw [show (ms2 c i a hs ms).length=ms.length by simp [ms2,ms1]]
    | false=>
      have hak:=av.kind.resolve_left (beq_eq_false_iff_ne.1 h1)
      have hg:a.give.toNat < hs.length:=by omega
      simp only [cond_false,J8,zV ha,Option.bind_some]
      rw [Kp (show 0≤a.give by omega) (by omega),jt hiu]
      simp only [Option.bind_some,List.getElem?_eq_getElem hg,List.getElem?_eq_getElem hiu,jM,hs3,us3,ms3,h1,cond_false]
      cases h3:(a.kind == 3) with
      | false=>
        simp only [cond_false,Option.bind_some]
        unfold vA
        rw [show (ms2 c i a hs ms).length=ms.length by simp [ms2,ms1],List.length_set,List.length_set]
        rfl
      | true=>
        simp only [cond_true]
        have hlen2:(ms.length:Int)=((ms2 c i a hs ms).length:Int):=by simp [ms2,ms1]
        rw [hlen2,show List.mapIdx (atK c (X2 (i:Int) (jR hs a))) (ms1 c i ms)=ms2 c i a hs ms from rfl]
        rw [wW (ms2 c i a hs ms) (atK c (QJ a)) (by simp [ms2,ms1];omega) ?p3]
        case p3=>
          intro j m s h1 h2 h3
          have hj1:j < (ms2 c i a hs ms).length:=(List.getElem?_eq_some_iff.1 h1).1
          have hj:j < ms.length:=by simpa [ms2,ms1] using hj1
          have hk:=List.getElem?_eq_getElem (show j < c.clauses.length by omega)
          simp only [jt hj,Option.bind_some,h3,yR,atK,hk,QJ]
          generalize c.clauses[j]=k at hk
          cases hrn:jF m with
          | false=>simp only [cond_false,Option.bind_some,jw h3]
          | true=>
            simp only [cond_true,zV hk,Option.bind_some]
            cases (k.kind == 4) with
            | true=>simp only [cond_true,Option.bind_some,Bool.not_true,Bool.false_and,cond_false,jw h3]
            | false=>
              simp only [cond_false,Option.bind_some,Bool.not_false,Bool.true_and]
              cases (k.role == a.give) with
              | true=>simp only [cond_true,Option.bind_some,Bool.not_true,cond_false]
              | false=>simp only [cond_false,Option.bind_some,Bool.not_true,jw h3]
        simp only [Option.bind_some,Sum.elim_inl]
        unfold vA
        rw [show ((ms2 c i a hs ms).mapIdx (atK c (QJ a))).length=ms.length by simp [ms2,ms1],List.length_set,List.length_set]
def noS:StateT:={day:=0,holders:=[],used:=[],marks:=[]}
def zgj (c:ContractT) (i:Nat) (a:ActT) (s r:StateT):Prop:=
  (a.kind≠1∧s.used[i]?=some true∧r=s)∨((a.kind=1∨s.used[i]?=some false)∧r.day=s.day∧r.holders=hs3 a s.holders∧r.used=us3 i a s.used∧StartP c (hs3 a s.holders) (ms3 c i a s.holders s.marks) r.marks)
def zd5 (c:ContractT) (s r:StateT):Prop:=r.day=s.day+1∧r.holders=s.holders∧r.used=s.used∧StartP c s.holders (s.marks.mapIdx (atK c (vM (xg c.off s.day).isSome))) r.marks
theorem Yq {b n:Nat} (h:n < 1000) (hb:b≤1000):mkN b (n:Int)=some n:=by
  unfold mkN
  have:n*b≤1000*1000:=Nat.mul_le_mul (by omega) hb
  rw [if_pos ⟨by omega,by omega,by omega⟩];simp
theorem Jl {α:Type} {l d:List α} {k:Nat} (h:k=d.length) (h2:l.length=k):j1 k d l=some l:=by unfold j1;rw [if_pos ⟨h,h2⟩]
theorem zeP {α:Type} {l:List α} {i:Nat} {x y:α} (h:y∈l.set i x):y∈l∨y=x:=List.mem_or_eq_of_mem_set h
theorem zdv {c:ContractT} {s:StateT} {a:Int} (hc:c.Ok) (hv:VS c s) (h1 : -1≤a) (h2:a < c.acts.length) (hd:s.day < c.days) :
    Ret (d_Step c s a) (fun r=>r.2=0∧VS c r.1∧(a = -1→zd5 c s r.1)∧(∀ (i:Nat) (x:ActT),a=(i:Int)→c.acts[i]?=some x→zgj c i x s r.1)):=by
  have ho:=hc.off.lt (by omega:0 < 8)
  have sm:=qX ho hv.cv
  have s1:=sm.holders
  have s2:=sm.acts
  have s3:=sm.clauses
  have sd:=sm.days
  have hlh:=hv.lh
  have hlu:=hv.lu
  have hlm:=hv.lm
  have hday:=hv.day
  have hmo:MOk c s.marks:=⟨hlm,fun i k m hk hm=>hv.mrk i k m hk hm⟩
  unfold d_Step
  have e1:decide (a < -1)=false:=decide_eq_false (by omega)
  have e2:decide ((c.acts.length:Int)≤a)=false:=decide_eq_false (by omega)
  refine Ret.bindE (v:=false) (by rw [Zr c s hc,Xo hv,e1,e2];rfl) ?_
  refine Ret.ite (fun h=>by cases h) (fun _ => ?_)
  refine Ret.ite (fun h=>absurd (beq_iff_eq.1 h) (by omega)) (fun _ => ?_)
  refine Ret.bindE (Yq (show s.holders.length < 1000 by omega) (by omega)) ?_
  refine Ret.bindE (Yq (show s.used.length < 1000 by omega) (by omega)) ?_
  refine Ret.bindE (Yq (show s.marks.length < 1000 by omega) (by omega)) ?_
  refine Ret.bindE (Jl (by simp) rfl) ?_
  refine Ret.bindE (Jl (by simp) rfl) ?_
  refine Ret.bindE (Jl (by simp) rfl) ?_
  cases ht:(a == (-1:Int)) with
  | true=>
    have ha:=beq_iff_eq.1 ht
    simp only [cond_true]
    rw [zeN c s.day s.holders s.used s.marks ho hv.cv hmo (by omega)]
    have hmo2:MOk c (s.marks.mapIdx (atK c (vM (xg c.off s.day).isSome))):=hmo.mapIdx _ fun i k m hk h=>zds _ (vL ho hv.cv hk) (by have:=sm.parties;omega) h
    refine Ret.bind (P:=fun v:List Int×List Bool×List MarkT×Int=>v.1=s.holders∧v.2.1=s.used∧v.2.2.2=s.day+1∧StartP c s.holders (s.marks.mapIdx (atK c (vM (xg c.off s.day).isSome))) v.2.2.1)
      (Ret.bind (WM c (s.day+1) s.holders s.used _ ho hv.cv hlh hv.hold hmo2) fun r hr=>Ret.some ⟨rfl,rfl,qI (by omega) (by omega),hr⟩) ?_
    rintro ⟨v1,v2,v3,v4⟩ ⟨q1,q2,q3,q4⟩
    simp only at q1 q2 q3 q4
    subst q1;subst q2;subst q3
    have hl3:s.marks.length=v3.length:=by have:=q4.ok.1;omega
    simp only [Zs,kK hl3,Option.bind_some]
    refine Ret.some ⟨rfl,⟨hv.cv,⟨by show 0≤s.day+1;omega,by show s.day+1≤c.days;omega⟩,hlh,hlu,q4.ok.1,hv.hold,hv.used,q4.ok.2,q4.nr⟩,fun _=>⟨rfl,rfl,rfl,q4⟩,fun i x hi=>by omega⟩
  | false=>
    have ha:=beq_eq_false_iff_ne.1 ht
    obtain ⟨i,rfl⟩:∃ i:Nat,a=(i:Int):=⟨a.toNat,by omega⟩
    have hi:i < c.acts.length:=by omega
    have hx:=List.getElem?_eq_getElem hi
    generalize c.acts[i]=x at hx
    have av:=Vm hv.cv hx
    simp only [cond_false]
    rw [zgi c s.day s.holders s.used s.marks i x ho hv.cv hlh hlu hx hmo]
    have hiu:i < s.used.length:=by omega
    cases hearly:(!(x.kind == 1)&&s.used[i]?.getD false) with
    | true=>
      simp only [cond_true,Option.bind_some,Zs]
      refine Ret.some ⟨rfl,hv,fun h=>by omega,fun j y hj hy => ?_⟩
      obtain rfl:i=j:=by omega
      rw [hx] at hy;cases hy
      simp only [Bool.and_eq_true,Bool.not_eq_true',beq_eq_false_iff_ne,List.getElem?_eq_getElem hiu,Option.getD_some] at hearly
      exact .inl ⟨hearly.1,by rw [List.getElem?_eq_getElem hiu,hearly.2],rfl⟩
    | false=>
      simp only [cond_false]
      have hkd:=av.kind
      have hh3:(hs3 x s.holders).length=c.holders.length:=by unfold hs3;cases (x.kind == 1)<;>simp [hlh]
      have hu3:(us3 i x s.used).length=c.acts.length:=by unfold us3;cases (x.kind == 1)<;>simp [hlu]
      have hb3:∀ h∈hs3 x s.holders,0≤h∧h < c.parties:=by
        unfold hs3
        cases hk1:(x.kind == 1) with
        | true=>exact hv.hold
        | false=>
          intro h hh
          have:=hkd.resolve_left (beq_eq_false_iff_ne.1 hk1)
          rcases zeP hh with h' | h'
          · exact hv.hold h h'
          · omega
      have hus3:∀ (j:Nat) (y:ActT),c.acts[j]?=some y→(us3 i x s.used)[j]?=some true→y.kind≠1:=by
        unfold us3
        cases hk1:(x.kind == 1) with
        | true=>exact hv.used
        | false=>
          intro j y hy hj
          simp only [cond_false] at hj
          rw [List.getElem?_set] at hj
          by_cases hij:i=j
          · subst hij
            rw [hx] at hy;cases hy
            exact beq_eq_false_iff_ne.1 hk1
          · rw [if_neg hij] at hj;exact hv.used j y hy hj
      refine Ret.bind (P:=fun v:List Int×List Bool×List MarkT×Int=>v.1=hs3 x s.holders∧v.2.1=us3 i x s.used∧v.2.2.2=s.day∧StartP c (hs3 x s.holders) (ms3 c i x s.holders s.marks) v.2.2.1)
        (Ret.bind (P:=fun v:List Int×List Bool×List MarkT=>v.1=hs3 x s.holders∧v.2.1=us3 i x s.used∧StartP c (hs3 x s.holders) (ms3 c i x s.holders s.marks) v.2.2) (Ret.bind (WM c s.day _ (us3 i x s.used) _ ho hv.cv hh3 hb3 (zgh ho hv.cv (by omega) av hmo)) fun r hr=>Ret.some ⟨rfl,rfl,hr⟩) fun v hv'=>Ret.some ⟨hv'.1,hv'.2.1,rfl,hv'.2.2⟩) ?_
      rintro ⟨v1,v2,v3,v4⟩ ⟨q1,q2,q3,q4⟩
      simp only at q1 q2 q3 q4
      subst q1;subst q2;subst q3
      have hl3:s.marks.length=v3.length:=by have:=q4.ok.1;omega
      simp only [kK (show s.holders.length=(hs3 x s.holders).length by omega),kK (show s.used.length=(us3 i x s.used).length by omega),kK hl3,Option.bind_some]
      refine Ret.some ⟨rfl,⟨hv.cv,hday,hh3,hu3,q4.ok.1,hb3,hus3,q4.ok.2,q4.nr⟩,fun h=>by omega,fun j y hj hy => ?_⟩
      obtain rfl:i=j:=by omega
      rw [hx] at hy;cases hy
      refine .inr ⟨?_,rfl,rfl,rfl,q4⟩
      simp only [Bool.and_eq_false_iff,Bool.not_eq_false',beq_iff_eq,List.getElem?_eq_getElem hiu,Option.getD_some] at hearly
      rcases hearly with h | h
      · exact .inl h
      · exact .inr (by rw [List.getElem?_eq_getElem hiu,h])
noncomputable def qE (c:ContractT) (s:StateT) (a:Int):StateT:=((d_Step c s a).getD (noS,1)).1
theorem wE {c:ContractT} {s:StateT} {a:Int} (hc:c.Ok) (hv:VS c s) (h1 : -1≤a) (h2:a < c.acts.length) (hd:s.day < c.days) :
    d_Step c s a=some (qE c s a,0)∧VS c (qE c s a)∧(a = -1→zd5 c s (qE c s a))∧(∀ (i:Nat) (x:ActT),a=(i:Int)→c.acts[i]?=some x→zgj c i x s (qE c s a)):=by
  obtain ⟨⟨r1,r2⟩,e,h⟩:=zdv hc hv h1 h2 hd
  have e2:qE c s a=r1:=by unfold qE;rw [e];rfl
  rw [e2,e]
  obtain ⟨h0,h⟩:=h
  simp only at h0 h
  subst h0
  exact ⟨rfl,h⟩
theorem vT {α:Type} [BEq α] [LawfulBEq α] {f:Nat→Unit→Option (Unit ⊕ Unit)} (a b:List α) (hl:a.length=b.length) (ha:a.length < 4611686018427387904) (h:∀ (i:Nat) (h1:i < a.length) (h2:i < b.length),f i ()=some (bif a[i] == b[i] then .inl () else .inr ())) :
    forR (a.length:Int) f ()=some (bif a == b then .inl () else .inr ()):=by
  rw [yP (fun i=>a[i]? == b[i]?) ha (fun i hi=>by
    rw [h i hi (by omega),List.getElem?_eq_getElem hi,List.getElem?_eq_getElem (show i < b.length by omega)]
    show _=some (bif (some a[i] == some b[i]) then _ else _)
    rfl)]
  congr 2
  rw [Bool.eq_iff_iff,List.all_eq_true]
  constructor
  · intro hh
    rw [beq_iff_eq]
    refine List.ext_getElem? fun i => ?_
    by_cases hi:i < a.length
    · exact beq_iff_eq.1 (hh i (List.mem_range.2 hi))
    · rw [List.getElem?_eq_none (by omega),List.getElem?_eq_none (by omega)]
  · intro hh i _
    rw [beq_iff_eq.1 hh];exact beq_self_eq_true _
theorem QK {α:Type} (a b:List α):((a.length:Int) == (b.length:Int))=decide (a.length=b.length):=by
  by_cases h:a.length=b.length
  · simp [h]
  · simp only [h,decide_false];exact beq_eq_false_iff_ne.2 (by omega)
theorem zhK (a b:List Int) (ha:a.length < 4611686018427387904):Vi a b=some (a == b):=by
  unfold Vi
  rw [QK]
  by_cases h:a.length=b.length
  · simp only [h,decide_true,cond_true]
    rw [←h,vT a b h ha (fun i h1 h2=>by
      simp only [zQ,List.getElem?_eq_getElem h1,List.getElem?_eq_getElem h2,Option.bind_some,zj])]
    cases (a == b)<;>rfl
  · simp only [h,decide_false,cond_false]
    have:a≠b:=fun e=>h (by rw [e])
    rw [beq_eq_false_iff_ne.2 this]
theorem zhL (a b:List Bool) (ha:a.length < 4611686018427387904):Vj a b=some (a == b):=by
  unfold Vj
  rw [QK]
  by_cases h:a.length=b.length
  · simp only [h,decide_true,cond_true]
    rw [←h,vT a b h ha (fun i h1 h2=>by
      simp only [zQ,List.getElem?_eq_getElem h1,List.getElem?_eq_getElem h2,Option.bind_some,zj])]
    cases (a == b)<;>rfl
  · simp only [h,decide_false,cond_false]
    have:a≠b:=fun e=>h (by rw [e])
    rw [beq_eq_false_iff_ne.2 this]
instance:BEq MarkT:=⟨fun a b=>(a.status == b.status)&&((a.left == b.left)&&((a.got == b.got)&&((a.bearer == b.bearer)&&((a.paused == b.paused)&&true))))⟩
instance:LawfulBEq MarkT where
  eq_of_beq {a b} h:=by
    have h':((a.status == b.status)&&((a.left == b.left)&&((a.got == b.got)&&((a.bearer == b.bearer)&&((a.paused == b.paused)&&true)))))=true:=h
    simp only [Bool.and_eq_true,beq_iff_eq,and_true] at h'
    obtain ⟨h1,h2,h3,h4,h5⟩:=h'
    cases a;cases b;simp_all
  rfl {a}:=by
    show ((a.status == a.status)&&((a.left == a.left)&&((a.got == a.got)&&((a.bearer == a.bearer)&&((a.paused == a.paused)&&true)))))=true
    simp
theorem zhM (a b:List MarkT) (ha:a.length < 4611686018427387904):Vk a b=some (a == b):=by
  unfold Vk
  rw [QK]
  by_cases h:a.length=b.length
  · simp only [h,decide_true,cond_true]
    rw [←h,vT a b h ha (fun i h1 h2=>by
      simp only [zQ,List.getElem?_eq_getElem h1,List.getElem?_eq_getElem h2,Option.bind_some,zj];rfl)]
    cases (a == b)<;>rfl
  · simp only [h,decide_false,cond_false]
    have:a≠b:=fun e=>h (by rw [e])
    rw [beq_eq_false_iff_ne.2 this]
def j5 (a b:StateT):Bool:=a.day == b.day&&(a.holders == b.holders&&(a.used == b.used&&a.marks == b.marks))
theorem WN {a b:StateT}:j5 a b=true↔a=b:=by
  unfold j5
  simp only [Bool.and_eq_true,beq_iff_eq]
  constructor
  · rintro ⟨h1,h2,h3,h4⟩
    cases a;cases b;simp_all
  · rintro rfl;exact ⟨rfl,rfl,rfl,rfl⟩
theorem Ky (a b:StateT) (h1:a.holders.length < 4611686018427387904) (h2:a.used.length < 4611686018427387904) (h3:a.marks.length < 4611686018427387904):jD a b=some (j5 a b):=by
  unfold jD j5
  rw [zhK _ _ h1,zhL _ _ h2,zhM _ _ h3]
  simp only [Option.bind_some,zj,Bool.cond_false_right]
theorem VS.few {c:ContractT} {s:StateT} (hc:c.Ok) (h:VS c s):s.holders.length≤12∧s.used.length≤60∧s.marks.length≤400:=by
  have sm:=qX (hc.off.lt (by omega)) h.cv
  have:=sm.holders
  have:=sm.acts
  have:=sm.clauses
  have:=h.lh
  have:=h.lu
  have:=h.lm
  omega
theorem Yr {c:ContractT} {s:StateT} (hc:c.Ok) (h:VS c s):ju s=some s:=by
  have:=h.few hc
  unfold ju
  rw [Qg (by omega),Qg (by omega),Qg (by omega)]
  rfl
noncomputable def yS (c:ContractT) (party:Int) (s:StateT):Bool:=decide (0≤party)&&(decide (party < c.parties)&&vsB c s)
theorem Xq {c:ContractT} (hc:c.Ok) (party:Int) (p:PosT):jp c party p=some (yS c party p.state):=by
  unfold jp yS
  rw [Zr c _ hc]
  simp only [Option.bind_some,zj,Bool.cond_false_right]
theorem yT {c:ContractT} {party:Int} {s:StateT}:yS c party s=true↔0≤party∧party < c.parties∧VS c s:=by
  simp only [yS,Bool.and_eq_true,decide_eq_true_eq]
  exact ⟨fun ⟨a,b,d⟩=>⟨a,b,zd4 d⟩,fun ⟨a,b,d⟩=>⟨a,b,Xo d⟩⟩
noncomputable def mvB (c:ContractT) (party:Int) (p:PosT) (i:Nat):Bool:=match c.acts[i]? with
  | some a=>((jR p.state.holders a == party) == p.own) && !j5 (qE c p.state i) p.state
  | none=>false
noncomputable def xr (c:ContractT) (party:Int) (p:PosT) (n:Nat):List Int:=((List.range n).filter (mvB c party p)).map fun i:Nat=>(i:Int)
noncomputable def zz (c:ContractT) (party:Int) (p:PosT):List Int:=
  (bif p.own then [-2] else [])++(bif decide (c.days≤p.state.day) then [] else (bif p.own then [] else [-1])++xr c party p c.acts.length)
noncomputable def target (c:ContractT) (p:PosT) (move:Int):PosT:=if move = -2 then {state:=p.state,own:=false} else {state:=qE c p.state move,own:=true}
theorem Zt (c:ContractT) (party:Int) (p:PosT) (n:Nat):xr c party p (n+1)=xr c party p n++(bif mvB c party p n then [(n:Int)] else []):=by
  unfold xr
  rw [List.range_succ,List.filter_append,List.map_append]
  congr 1
  cases h:mvB c party p n<;>simp [h]
theorem WO (c:ContractT) (party:Int) (p:PosT) (n:Nat):(xr c party p n).length≤n:=by
  unfold xr
  rw [List.length_map]
  have:=List.length_filter_le (mvB c party p) (List.range n)
  simpa using this
theorem Ys {c:ContractT} {s:StateT} {a:ActT} (hv:VS c s) (av:AV2 c a):(bif a.role == (-1) then some (-1) else (Option.bind (ze s.holders a.role) fun e2=>some e2))=some (jR s.holders a):=by
  unfold jR
  cases hr:(a.role == (-1:Int)) with
  | true=>rfl
  | false=>
    have h1:=beq_eq_false_iff_ne.1 hr
    have:=av.role
    have:=hv.lh
    obtain ⟨h2,h3⟩:=qC (l:=s.holders) (n:=a.role) (by omega) (by omega)
    rw [h3,List.getElem?_eq_getElem h2];rfl
theorem yu {c:ContractT} {party:Int} {p:PosT} {n:Nat} {x:Int}:x∈xr c party p n↔∃ i:Nat,i < n∧mvB c party p i=true∧x=(i:Int):=by
  unfold xr
  simp only [List.mem_map,List.mem_filter,List.mem_range]
  constructor
  · rintro ⟨i,⟨a,b⟩,rfl⟩;exact ⟨i,a,b,rfl⟩
  · rintro ⟨i,a,b,rfl⟩;exact ⟨i,⟨a,b⟩,rfl⟩
theorem jq {c:ContractT} {party:Int} {p:PosT} {x:Int}:x∈zz c party p↔(p.own=true∧x = -2)∨(p.state.day < c.days∧p.own=false∧x = -1)∨(p.state.day < c.days∧∃ i:Nat,i < c.acts.length∧mvB c party p i=true∧x=(i:Int)):=by
  unfold zz
  by_cases hd:c.days≤p.state.day
  · have:¬ p.state.day < c.days:=by omega
    simp only [hd,decide_true,cond_true,List.append_nil,this,false_and,or_false]
    cases p.own<;>simp
  · have:p.state.day < c.days:=by omega
    simp only [hd,decide_false,cond_false,List.mem_append,yu,this,true_and]
    cases p.own<;>simp
def noP:PosT:={state:=noS,own:=false}
def Xr (s:StateT):Int×List Int×List Bool×List MarkT:=(s.day,s.holders,s.used,s.marks)
theorem zeQ (m:Int):((-2:Int) == m)=decide (m = -2):=by
  by_cases h:m = -2
  · subst h;rfl
  · rw [decide_eq_false h];exact beq_eq_false_iff_ne.2 (fun e=>h e.symm)
theorem zeR (m:Int):((-1:Int) == m)=decide (m = -1):=by
  by_cases h:m = -1
  · subst h;rfl
  · rw [decide_eq_false h];exact beq_eq_false_iff_ne.2 (fun e=>h e.symm)
def Yu (c:ContractT) (n:Int):Bool:=
  !(decide (20 < (c.holders.length:Int))||(decide (30 < (c.units.length:Int))||(decide (70 < (c.acts.length:Int))||(decide (n < (c.clauses.length:Int))||decide (100 < (c.off.length:Int))))))&&c.clauses.all (fun k=>!decide (20 < (k.start.length:Int)))
theorem zcx (c:ContractT) (n:Int) (hc:c.clauses.length < 4611686018427387904):yM c n=some (Yu c n):=by
  unfold yM Yu
  rw [wA (l:=c.clauses) (fun k=>!decide (20 < (k.start.length:Int))) hc (fun i hi=>by
    simp only [zQ,List.getElem?_eq_getElem hi,Option.bind_some]
    cases decide (20 < (c.clauses[i].start.length:Int))<;>rfl)]
  simp only [zj,Option.bind_some,Bool.cond_true_left]
  cases (decide (20 < (c.holders.length:Int))||(decide (30 < (c.units.length:Int))||(decide (70 < (c.acts.length:Int))||(decide (n < (c.clauses.length:Int))||decide (100 < (c.off.length:Int)))))) <;>
    cases c.clauses.all (fun k=>!decide (20 < (k.start.length:Int)))<;>rfl
def Vn (c:ContractT):Bool:=Yu c 6&&(decide ((c.acts.length:Int)≤8)&&decide (c.days≤20))
theorem zgk {c:ContractT} (hc:c.Ok):Xg c=some (Vn c):=by
  unfold Xg Vn
  rw [zcx c 6 (hc.clauses.lt (by omega))]
  simp only [zj,Option.bind_some,Bool.cond_false_right]
theorem wY {d:Nat} (h:d < 10):(UInt8.ofNat (48+d)).toNat=48+d:=by
  rw [UInt8.toNat_ofNat'];omega
theorem Qi:∀ (u:Nat),∀ b∈Lib.decDigits u,48≤b.toNat∧b.toNat≤57:=by
  intro u
  induction u using Nat.strongRecOn with
  | _ u ih=>
    intro b hb
    rw [Lib.decDigits] at hb
    by_cases h:u < 10
    · rw [dif_pos h] at hb
      simp only [List.mem_singleton] at hb
      subst hb
      rw [wY h];omega
    · rw [dif_neg h] at hb
      rcases List.mem_append.1 hb with hb | hb
      · exact ih (u / 10) (by omega) b hb
      · simp only [List.mem_singleton] at hb
        subst hb
        rw [wY (by omega)];omega
def Qj (l:List UInt8):Nat:=l.foldl (fun a b=>a*10+(b.toNat - 48)) 0
theorem vN:∀ (u:Nat),Qj (Lib.decDigits u)=u:=by
  intro u
  induction u using Nat.strongRecOn with
  | _ u ih=>
    rw [Lib.decDigits]
    by_cases h:u < 10
    · rw [dif_pos h]
      simp only [Qj,List.foldl_cons,List.foldl_nil,wY h];omega
    · rw [dif_neg h]
      have:=ih (u / 10) (by omega)
      unfold Qj at this ⊢
      rw [List.foldl_append,this]
      simp only [List.foldl_cons,List.foldl_nil,wY (show u % 10 < 10 by omega)];omega
theorem zdw {a b:Int} (h:Lib.itoa a=Lib.itoa b):a=b:=by
  have key:∀ (u v:Nat),45::Lib.decDigits u=Lib.decDigits v→False:=by
    intro u v h
    have:=Qi v 45 (by rw [←h];exact List.mem_cons_self)
    have e:(45:UInt8).toNat=45:=rfl
    omega
  unfold Lib.itoa at h
  by_cases ha:a < 0
  · by_cases hb:b < 0
    · rw [if_pos ha,if_pos hb] at h
      have h1:=congrArg Qj (List.cons.inj h).2
      rw [vN,vN] at h1
      omega
    · rw [if_pos ha,if_neg hb] at h
      exact (key _ _ h).elim
  · by_cases hb:b < 0
    · rw [if_neg ha,if_pos hb] at h
      exact (key _ _ h.symm).elim
    · rw [if_neg ha,if_neg hb] at h
      have h1:=congrArg Qj h
      rw [vN,vN] at h1
      omega
theorem WP (n:Int):∀ b∈Lib.itoa n,b≠32:=by
  intro b hb e
  subst e
  have e:(32:UInt8).toNat=32:=rfl
  unfold Lib.itoa at hb
  split at hb
  · rcases List.mem_cons.1 hb with h | h
    · exact absurd h (by decide)
    · have:=Qi _ _ h;omega
  · have:=Qi _ _ hb;omega
def PI {α:Type} (f:α→List UInt8):Prop:=∀ (a b:α) (xs ys:List UInt8),f a++xs=f b++ys→a=b∧xs=ys
theorem Kz:∀ {a b xs ys:List UInt8},(∀ x∈a,x≠32)→(∀ x∈b,x≠32)→a++32::xs=b++32::ys→a=b∧xs=ys
  | [],[],xs,ys,_,_,h=>⟨rfl,(List.cons.inj h).2⟩
  | [],y::b,xs,ys,_,hb,h=>absurd (List.cons.inj h).1.symm (hb y List.mem_cons_self)
  | x::a,[],xs,ys,ha,_,h=>absurd (List.cons.inj h).1 (ha x List.mem_cons_self)
  | x::a,y::b,xs,ys,ha,hb,h=>by
    obtain ⟨h1,h2⟩:=List.cons.inj h
    obtain ⟨h3,h4⟩:=Kz (a:=a) (b:=b) (fun z hz=>ha z (List.mem_cons_of_mem _ hz)) (fun z hz=>hb z (List.mem_cons_of_mem _ hz)) h2
    exact ⟨by rw [h1,h3],h4⟩
theorem kN:PI zM:=fun a b xs ys h=>by
  unfold zM at h
  rw [List.append_assoc,List.append_assoc] at h
  obtain ⟨h1,h2⟩:=Kz (WP a) (WP b) h
  exact ⟨zdw h1,h2⟩
theorem X3:PI qh:=fun a b xs ys h=>by
  unfold qh at h
  obtain ⟨h1,h2⟩:=List.cons.inj h
  refine ⟨?_,h2⟩
  cases a<;>cases b<;>first | rfl | exact absurd h1 (by decide)
theorem zeS:PI jy:=fun a b xs ys h=>by
  unfold jy at h
  simp only [List.append_assoc] at h
  obtain ⟨h1,h⟩:=kN _ _ _ _ h
  obtain ⟨h2,h⟩:=kN _ _ _ _ h
  obtain ⟨h3,h⟩:=kN _ _ _ _ h
  obtain ⟨h4,h⟩:=kN _ _ _ _ h
  obtain ⟨h5,h6⟩:=X3 _ _ _ _ h
  refine ⟨?_,h6⟩
  clear h6 h
  cases a;cases b
  simp only at h1 h2 h3 h4 h5
  subst h1;subst h2;subst h3;subst h4;subst h5
  rfl
theorem QL {α:Type} {f:α→List UInt8} (hf:PI f):∀ {l m:List α} {xs ys:List UInt8},l.length=m.length→l.flatMap f++xs=m.flatMap f++ys→l=m∧xs=ys
  | [],[],_,_,_,h=>⟨rfl,h⟩
  | [],_::_,_,_,hl,_=>by simp at hl
  | _::_,[],_,_,hl,_=>by simp at hl
  | a::l,b::m,xs,ys,hl,h=>by
    rw [List.flatMap_cons,List.flatMap_cons,List.append_assoc,List.append_assoc] at h
    obtain ⟨h1,h⟩:=hf _ _ _ _ h
    obtain ⟨h2,h⟩:=QL hf (by simpa using hl) h
    exact ⟨by rw [h1,h2],h⟩
theorem zdx {c:ContractT} {p q:PosT} (hp:VS c p.state) (hq:VS c q.state) (h:z1 p=z1 q):p=q:=by
  unfold z1 at h
  simp only [List.append_assoc] at h
  obtain ⟨h1,h⟩:=X3 _ _ _ _ h
  obtain ⟨h2,h⟩:=kN _ _ _ _ h
  obtain ⟨h3,h⟩:=QL kN (by rw [hp.lh,hq.lh]) h
  obtain ⟨h4,h⟩:=QL X3 (by rw [hp.lu,hq.lu]) h
  have h5:=(QL (l:=p.state.marks) (m:=q.state.marks) (xs:=[]) (ys:=[]) zeS (by rw [hp.lm,hq.lm]) (by rw [List.append_nil,List.append_nil];exact h)).1
  clear h
  obtain ⟨⟨d,hs,us,ms⟩,o⟩:=p
  obtain ⟨⟨d',hs',us',ms'⟩,o'⟩:=q
  simp only at h1 h2 h3 h4 h5
  subst h1;subst h2;subst h3;subst h4;subst h5;rfl
theorem Zu {α:Type} {f:α→List UInt8} {b:Nat}:∀ {l:List α},(∀ a∈l,(f a).length≤b)→(l.flatMap f).length≤l.length*b
  | [],_=>by simp
  | a::l,h=>by
    have h1:=h a List.mem_cons_self
    have h2:=Zu (f:=f) (b:=b) (l:=l) fun x hx=>h x (List.mem_cons_of_mem _ hx)
    rw [List.flatMap_cons,List.length_append,List.length_cons,Nat.succ_mul];omega
theorem zgl {c:ContractT} {i:Nat} {k:ClauseT} {m:MarkT} (kv:KV c i k) (hp:c.parties≤12) (h:q9 c.parties k m=true):(0≤m.status∧m.status≤5)∧(0≤m.left∧m.left≤400)∧(0≤m.got∧m.got≤9)∧(-1≤m.bearer∧m.bearer≤12):=by
  have hn:=kv.need
  rcases wC.1 h with ⟨h0,_,h1⟩ | ⟨h0,h1,h2⟩ | ⟨h0,h1,h2,h3⟩ | ⟨h0,h1⟩
  · simp only [Vl,Bool.and_eq_true,beq_iff_eq] at h1
    omega
  · have hr:jF m=true:=by simp [jF,h0]
    obtain ⟨rv,_,_⟩:=xU kv h hr
    have:=rv.left;have:=rv.got;have:=rv.bearer
    omega
  · have hr:jF m=true:=by simp [jF,h0]
    obtain ⟨rv,_,_⟩:=xU kv h hr
    have:=rv.left;have:=rv.got;have:=rv.bearer
    omega
  · simp only [zaI,Bool.and_eq_true,beq_iff_eq,decide_eq_true_eq] at h1
    omega
theorem wF {n:Int} (h0 : -1000000≤n) (h1:n≤1000000):j4 n=true:=by
  simp only [j4,Bool.and_eq_true,decide_eq_true_eq];omega
theorem vU {n:Int} (h0 : -1000000≤n) (h1:n≤1000000):(zM n).length≤22:=by
  have:=Lib.itoa_length_le n (by omega) (by omega)
  simp only [zM,List.length_append,List.length_cons,List.length_nil];omega
def txt (p:PosT):ByteArray:=⟨(z1 p).toArray⟩
theorem zeT {c:ContractT} {p q:PosT} (hp:VS c p.state) (hq:VS c q.state) (h:txt p=txt q):p=q:=by
  refine zdx hp hq ?_
  unfold txt at h
  have h2:=congrArg (fun b:ByteArray=>b.data.toList) h
  simpa using h2
theorem Yv {c:ContractT} (hc:c.Ok) {p:PosT} (hp:VS c p.state):qF p=some (txt p):=by
  have ho:=hc.off.lt (by omega:0 < 8)
  have sm:=qX ho hp.cv
  have hpa:=sm.parties
  have hda:=sm.days
  have hday:=hp.day
  have hf:=hp.few hc
  have hh:∀ h∈p.state.holders,-1000000≤h∧h≤1000000:=fun h hh=>by have:=hp.hold h hh;omega
  have hm:∀ m∈p.state.marks,(0≤m.status∧m.status≤5)∧(0≤m.left∧m.left≤400)∧(0≤m.got∧m.got≤9)∧(-1≤m.bearer∧m.bearer≤12):=fun m hm=>by
    obtain ⟨i,hi,rfl⟩:=List.getElem_of_mem hm
    have hk:=List.getElem?_eq_getElem (show i < c.clauses.length by have:=hp.lm;omega)
    exact zgl (vL ho hp.cv hk) (by omega) (hp.mrk i _ _ hk (List.getElem?_eq_getElem hi))
  have hlen:(z1 p).length≤1000000000:=by
    have h1:=vU (n:=p.state.day) (by omega) (by omega)
    have h2:=Zu (f:=zM) (b:=22) (l:=p.state.holders) fun h hh'=>vU (hh h hh').1 (hh h hh').2
    have h3:=Zu (f:=qh) (b:=1) (l:=p.state.used) fun _ _=>by simp [qh]
    have h4:=Zu (f:=jy) (b:=89) (l:=p.state.marks) fun m hm'=>by
      have:=hm m hm'
      have a1:=vU (n:=m.status) (by omega) (by omega)
      have a2:=vU (n:=m.left) (by omega) (by omega)
      have a3:=vU (n:=m.got) (by omega) (by omega)
      have a4:=vU (n:=m.bearer) (by omega) (by omega)
      simp only [jy,qh,List.length_append,List.length_cons,List.length_nil];omega
    simp only [z1,List.length_append]
    have:(qh p.own).length=1:=rfl
    omega
  have hok:okP p=true:=by
    simp only [okP,Bool.and_eq_true,decide_eq_true_eq,List.all_eq_true]
    refine ⟨⟨⟨wF (by omega) (by omega),fun x hx=>wF (hh x hx).1 (hh x hx).2⟩,fun m hm' => ?_⟩,hlen⟩
    have:=hm m hm'
    exact ⟨⟨⟨wF (by omega) (by omega),wF (by omega) (by omega)⟩,wF (by omega) (by omega)⟩,wF (by omega) (by omega)⟩
  unfold qF txt
  rw [if_pos hok]
instance:BEq PosT:=⟨fun a b=>a.own == b.own&&j5 a.state b.state⟩
instance:LawfulBEq PosT where
  eq_of_beq {a b} h:=by
    have h':(a.own == b.own&&j5 a.state b.state)=true:=h
    simp only [Bool.and_eq_true,beq_iff_eq,WN] at h'
    obtain ⟨h1,h2⟩:=h'
    cases a;cases b;simp_all
  rfl {a}:=by
    show (a.own == a.own&&j5 a.state a.state)=true
    simp [WN.2 rfl]
noncomputable instance:DecidableEq PosT:=fun a b=>if h:(a == b)=true then isTrue (eq_of_beq h) else isFalse fun e=>h (beq_iff_eq.2 e)
def zgm (q:PosT) (L:List PosT):Option Int:=if q∈L then some (L.idxOf q:Int) else none
def zjd (c:ContractT) (F:List (ByteArray×Int)) (L:List PosT):Prop:=∀ q:PosT,VS c q.state→zp (txt q) F=zgm q L
theorem wG {α β:Type} [DecidableEq α] (k:α) (v:β):∀ l:List (α×β),zp k (z8 k v l)=some v
  | []=>by simp [z8,zp]
  | (k',v')::r=>by
    unfold z8
    split
    · simp [zp]
    · rename_i h;simp only [zp,h,if_false];exact wG k v r
theorem Qk {α β:Type} [DecidableEq α] {k k2:α} (v:β) (h:k2≠k):∀ l:List (α×β),zp k2 (z8 k v l)=zp k2 l
  | []=>by simp [z8,zp,h]
  | (k',v')::r=>by
    unfold z8
    split
    · rename_i e;subst e;simp only [zp,h,if_false]
    · by_cases h2:k2=k'
      · simp only [zp,h2,if_true]
      · simp only [zp,h2,if_false];exact Qk v h r
def zgn:Nat→List MoveT→Option Nat
  | n,[]=>some n
  | n,t::r=>if 0≤t.to∧t.to≤(n:Int) then zgn (if t.to=(n:Int) then n+1 else n) r else none
def Yw:Nat→Nat→List (List MoveT)→Option Nat
  | i,n,[]=>some n
  | i,n,l::r=>if i < n then (zgn n l).bind fun n'=>Yw (i+1) n' r else none
inductive Rch (c:ContractT) (party:Int) (p0:PosT):PosT→Prop where
  | base:Rch c party p0 p0
  | step {q:PosT} {m:Int} (h:Rch c party p0 q) (hm:m∈zz c party q):Rch c party p0 (target c q m)
theorem zcy {c:ContractT} (hc:c.Ok) {party:Int} {e:PosT} {m:Int} (he:VS c e.state) (hm:m∈zz c party e):VS c (target c e m).state:=by
  unfold target
  by_cases h2:m = -2
  · rw [if_pos h2];exact he
  · rw [if_neg h2]
    rcases jq.1 hm with h | ⟨hd,_,rfl⟩ | ⟨hd,i,hi,_,rfl⟩
    · exact absurd h.2 h2
    · exact (wE hc he (by omega) (by omega) hd).2.1
    · exact (wE hc he (by omega) (by omega) hd).2.1
structure PInv (c:ContractT) (party:Int) (p0:PosT) (L:List PosT):Prop where
  vs:∀ q∈L,VS c q.state
  nd:L.Nodup
  rch:∀ q∈L,Rch c party p0 q
  len:L.length≤1500
def MvOk (c:ContractT) (party:Int) (L:List PosT) (e:PosT) (ms:List Int) (T:List MoveT):Prop:=T.map (·.step)=ms∧∀ t∈T,0≤t.to∧L[t.to.toNat]?=some (target c e t.step)
theorem zeU {α:Type} {L r:List α} {i:Nat} {x:α} (h:L[i]?=some x):(L++r)[i]?=some x:=by
  rw [List.getElem?_append_left (List.getElem?_eq_some_iff.1 h).1];exact h
theorem MvOk.app {c:ContractT} {party:Int} {L:List PosT} {e:PosT} {ms:List Int} {T:List MoveT} (h:MvOk c party L e ms T) (r:List PosT):MvOk c party (L++r) e ms T:=
  ⟨h.1,fun t ht=>⟨(h.2 t ht).1,zeU (h.2 t ht).2⟩⟩
theorem yU {c:ContractT} (hc:c.Ok) {party:Int} {e:PosT} (he:VS c e.state):(zz c party e).length≤62:=by
  have sm:=qX (hc.off.lt (by omega)) he.cv
  have sa:=sm.acts
  have:=WO c party e c.acts.length
  unfold zz
  cases e.own<;>cases decide (c.days≤e.state.day)<;>simp<;>omega
structure FromOk (c:ContractT) (party:Int) (p:PosT) (L:List PosT) (M:List (List MoveT)):Prop where
  inv:PInv c party p L
  first:L[0]?=some p
  len:M.length=L.length
  mv:∀ (j:Nat) (T:List MoveT) (e:PosT),M[j]?=some T→L[j]?=some e→MvOk c party L e (zz c party e) T
  chk:Yw 0 1 M=some L.length
structure FInv (c:ContractT) (party:Int) (p:PosT) (s:Int×(List PosT)×(List (List MoveT))×(List (ByteArray×Int))):Prop where
  i:s.1=(s.2.2.1.length:Int)
  le:s.2.2.1.length≤s.2.1.length
  inv:PInv c party p s.2.1
  rel:zjd c s.2.2.2 s.2.1
  first:s.2.1[0]?=some p
  mv:∀ (j:Nat) (T:List MoveT) (e:PosT),s.2.2.1[j]?=some T→s.2.1[j]?=some e→MvOk c party s.2.1 e (zz c party e) T
  chk:Yw 0 1 s.2.2.1=some s.2.1.length
theorem zdy (a b:StateT) (h1:a.holders.length < 4611686018427387904) (h2:a.used.length < 4611686018427387904) (h3:a.marks.length < 4611686018427387904):Zq a b=some (j5 a b):=by
  unfold Zq j5
  simp only [QK]
  by_cases e1:a.day=b.day
  · by_cases e2:a.holders.length=b.holders.length
    · by_cases e3:a.used.length=b.used.length
      · by_cases e4:a.marks.length=b.marks.length
        · simp only [e1,beq_self_eq_true,cond_true,e2,e3,e4,decide_true,Bool.not_true,Option.bind_some,cond_false,Bool.true_and]
          rw [←e2,←e3,←e4]
          rw [vT a.holders b.holders e2 h1 (fun i h1 h2=>by
            simp only [zQ,List.getElem?_eq_getElem h1,List.getElem?_eq_getElem h2,Option.bind_some,zj])]
          rw [vT a.used b.used e3 h2 (fun i h1 h2=>by
            simp only [zQ,List.getElem?_eq_getElem h1,List.getElem?_eq_getElem h2,Option.bind_some,zj])]
          rw [vT a.marks b.marks e4 h3 (fun i h1 h2=>by
            simp only [zQ,List.getElem?_eq_getElem h1,List.getElem?_eq_getElem h2,Option.bind_some,zj];rfl)]
          cases (a.holders == b.holders)<;>cases (a.used == b.used)<;>cases (a.marks == b.marks)<;>rfl
        · have:(a.marks == b.marks)=false:=beq_eq_false_iff_ne.2 fun e=>e4 (by rw [e])
          simp only [e1,beq_self_eq_true,cond_true,e2,e3,e4,decide_true,decide_false,Bool.not_false,Option.bind_some,this,Bool.and_false]
      · have:(a.used == b.used)=false:=beq_eq_false_iff_ne.2 fun e=>e3 (by rw [e])
        simp only [e1,beq_self_eq_true,cond_true,e2,e3,decide_true,decide_false,cond_false,Option.bind_some,this,Bool.and_false,Bool.false_and]
    · have:(a.holders == b.holders)=false:=beq_eq_false_iff_ne.2 fun e=>e2 (by rw [e])
      simp only [e1,beq_self_eq_true,cond_true,e2,decide_false,cond_false,Option.bind_some,this,Bool.and_false,Bool.false_and]
  · simp only [beq_eq_false_iff_ne.2 e1,cond_false,Option.bind_some,cond_true,Bool.false_and]
theorem zcz (a b:PosT) (h1:a.state.holders.length < 4611686018427387904) (h2:a.state.used.length < 4611686018427387904) (h3:a.state.marks.length < 4611686018427387904):vz a b=some (a == b):=by
  unfold vz
  rw [zdy _ _ h1 h2 h3]
  simp only [Option.bind_some,zj,Bool.cond_false_right]
  rfl
theorem FromOk.closed {c:ContractT} {party:Int} {p:PosT} {L:List PosT} {M:List (List MoveT)} (F:FromOk c party p L M) {q:PosT} (hq:q∈L) {m:Int} (hm:m∈zz c party q):target c q m∈L:=by
  obtain ⟨j,hj,e⟩:=List.getElem_of_mem hq
  have hjM:j < M.length:=by rw [F.len];exact hj
  have h:=F.mv j M[j] q (List.getElem?_eq_getElem hjM) (by rw [List.getElem?_eq_getElem hj,e])
  rw [←h.1] at hm
  obtain ⟨t,ht,rfl⟩:=List.mem_map.1 hm
  exact List.mem_of_getElem? (h.2 t ht).2
theorem FromOk.rch {c:ContractT} {party:Int} {p:PosT} {L:List PosT} {M:List (List MoveT)} (F:FromOk c party p L M) {q x:PosT} (hq:q∈L) (h:Rch c party q x):x∈L:=by
  induction h with
  | base=>exact hq
  | step _ hm ih=>exact F.closed ih hm
section
def at_ (l:List Int) (i:Nat):Int:=l[i]?.getD 0
def cst (l:List Nat):List Int:=l.map fun x:Nat=>(x:Int)
theorem zeV (l:List Nat):(cst l).length=l.length:=List.length_map _
theorem zeW (l m:List Nat):cst (l++m)=cst l++cst m:=List.map_append
def zaM (c:ContractT) (party:Int) (marks:List MarkT) (i:Nat):Bool:=match c.clauses[i]?,marks[i]? with
  | some k,some m=>k.final&&((m.status == 4)&&(m.bearer == party))
  | _,_=>false
def ja (c:ContractT) (s:StateT) (party:Int):Bool := !((List.range s.marks.length).all fun i=>!zaM c party s.marks i)
theorem zcA (c:ContractT) (s:StateT) (party:Int) (hl:s.marks.length=c.clauses.length) (hs:s.marks.length < 4611686018427387904) :
    (forR (σ:=Unit) (ρ:=Unit) (s.marks.length:Int) (fun i1 s1=>(Option.bind (ze s.marks (i1:Int)) fun e1=>(Option.bind (Option.bind (ze c.clauses (i1:Int)) fun e2=>(bif e2.final then (bif (e1.status == 4) then some (e1.bearer == party) else some false) else some false)) fun v1=>(bif v1 then some (.inr ()) else some (.inl ()))))) ()) =
      some (bif ja c s party then .inr () else .inl ()):=by
  rw [yP (fun i=>!zaM c party s.marks i) hs (fun j hj=>by
    have hk:j < c.clauses.length:=by omega
    simp only [zQ,List.getElem?_eq_getElem hj,List.getElem?_eq_getElem hk,Option.bind_some,zaM]
    cases (c.clauses[j].final)<;>cases (s.marks[j].status == 4)<;>cases (s.marks[j].bearer == party)<;>rfl)]
  unfold ja
  cases ((List.range s.marks.length).all fun i=>!zaM c party s.marks i)<;>rfl
theorem Yx {c:ContractT} (hc:c.Ok) {s:StateT} (hv:VS c s) {party:Int} (h0:0≤party) (h1:party < c.parties):jO c s party=some (ja c s party):=by
  have:=(hv.few hc).2.2
  unfold jO
  rw [decide_eq_false (show ¬ party < 0 by omega),decide_eq_false (show ¬ c.parties≤party by omega),Zr c s hc,Xo hv]
  simp only [cond_false,Option.bind_some,Bool.not_true]
  rw [zcA c s party hv.lm (by omega)]
  cases ja c s party<;>rfl
def gm (c:ContractT) (a:ArenaT):Gm where
  n:=a.positions.length
  own i:=match a.positions[i]? with | some q=>q.own | none=>false
  lost i:=match a.positions[i]? with | some q=>ja c q.state a.party | none=>false
  succ i:=match a.moves[i]? with | some T=>T.map fun m=>m.to.toNat | none=>[]
structure ArOk (c:ContractT) (party:Int) (p:PosT) (a:ArenaT):Prop where
  p0:0≤party
  p1:party < c.parties
  pa:a.party=party
  F:FromOk c party p a.positions a.moves
section
variable {c:ContractT} {party:Int} {p:PosT} {a:ArenaT}
theorem ArOk.mv (A:ArOk c party p a) {i:Nat} (hi:i < a.positions.length):∃ T,a.moves[i]?=some T∧MvOk c party a.positions a.positions[i] (zz c party a.positions[i]) T:=by
  have h:i < a.moves.length:=by rw [A.F.len];exact hi
  exact ⟨a.moves[i],List.getElem?_eq_getElem h,A.F.mv i _ _ (List.getElem?_eq_getElem h) (List.getElem?_eq_getElem hi)⟩
theorem ArOk.succ (A:ArOk c party p a) {i:Nat} (hi:i < a.positions.length) {T:List MoveT} (hT:a.moves[i]?=some T):(gm c a).succ i=T.map fun m=>m.to.toNat:=by
  simp only [gm,hT]
theorem ArOk.to (A:ArOk c party p a) {i:Nat} (hi:i < a.positions.length) {T:List MoveT} (hT:a.moves[i]?=some T) {m:MoveT} (hm:m∈T):0≤m.to∧m.to < a.positions.length:=by
  obtain ⟨T',h1,_,h3⟩:=A.mv hi
  rw [hT] at h1;cases h1
  obtain ⟨h4,h5⟩:=h3 m hm
  have:=(List.getElem?_eq_some_iff.1 h5).1
  omega
theorem ArOk.len (hc:c.Ok) (A:ArOk c party p a) {i:Nat} (hi:i < a.positions.length) {T:List MoveT} (hT:a.moves[i]?=some T):T.length≤62:=by
  obtain ⟨T',h1,h2,_⟩:=A.mv hi
  rw [hT] at h1;cases h1
  have:=yU hc (party:=party) (A.F.inv.vs _ (List.getElem_mem hi))
  rw [←List.length_map (f:=fun x:MoveT=>x.step),h2];exact this
theorem ArOk.closed (A:ArOk c party p a):∀ i,i < (gm c a).n→∀ t∈(gm c a).succ i,t < (gm c a).n:=fun i hi t ht=>by
  obtain ⟨T,h1,_⟩:=A.mv hi
  rw [A.succ hi h1] at ht
  obtain ⟨m,hm,rfl⟩:=List.mem_map.1 ht
  have:=A.to hi h1 hm
  show m.to.toNat < a.positions.length
  omega
structure L1 (G:Gm) (i k:Nat) (bef:List (List Int)):Prop where
  len:bef.length=G.n
  row:∀ t,t < G.n→∃ l:List Nat,bef[t]?=some (cst l)∧l.length≤62*i+k∧∀ x,l.count x=if x < i then (G.succ x).count t else if x=i then ((G.succ i).take k).count t else 0
theorem L1.next {G:Gm} {i k:Nat} {bef:List (List Int)} (h:L1 G i k bef) (hk:k=(G.succ i).length) (hl:k≤62):L1 G (i+1) 0 bef:=by
  refine ⟨h.len,fun t ht => ?_⟩
  obtain ⟨l,h1,h2,h3⟩:=h.row t ht
  refine ⟨l,h1,by omega,fun x => ?_⟩
  rw [h3 x]
  by_cases e:x < i
  · rw [if_pos e,if_pos (by omega)]
  · rw [if_neg e]
    by_cases e2:x=i
    · subst e2;rw [if_pos rfl,if_pos (by omega),hk,List.take_length]
    · rw [if_neg e2,if_neg (by omega)]
      split<;>simp
theorem L1.step {G:Gm} {i k:Nat} {bef:List (List Int)} (h:L1 G i k bef) (hn:G.n≤1500) (hi:i < G.n) (hk:k≤62) {to:Nat} (ht:(G.succ i)[k]?=some to) (hto:to < G.n):Ret (xS bef G.n (to:Int) (i:Int)) (L1 G i (k+1)):=by
  obtain ⟨l,h1,h2,h3⟩:=h.row to hto
  have e:xS bef G.n (to:Int) (i:Int)=some (bef.set to (cst (l++[i]))):=by
    unfold xS
    rw [if_pos ⟨by omega,by omega,by omega⟩,Int.toNat_natCast,h1]
    simp only
    rw [if_pos (by rw [zeV];omega),zeW];rfl
  refine ⟨_,e,by rw [List.length_set];exact h.len,fun t ht2 => ?_⟩
  have htk:(G.succ i).take (k+1)=(G.succ i).take k++[to]:=by
    obtain ⟨h5,h6⟩:=List.getElem?_eq_some_iff.1 ht
    rw [List.take_succ_eq_append_getElem h5,h6]
  by_cases e2:t=to
  · subst e2
    refine ⟨l++[i],List.getElem?_set_self (by rw [h.len];exact ht2),by simp;omega,fun x => ?_⟩
    rw [List.count_append,h3 x,htk,List.count_append]
    by_cases a1:x < i
    · rw [if_pos a1,if_pos a1,List.count_cons_of_ne (by omega)];simp
    · rw [if_neg a1,if_neg a1]
      by_cases a2:x=i
      · subst a2;rw [if_pos rfl,if_pos rfl];simp
      · rw [if_neg a2,if_neg a2,List.count_cons_of_ne (fun h=>a2 h.symm)];simp
  · obtain ⟨l2,b1,b2,b3⟩:=h.row t ht2
    refine ⟨l2,by rw [List.getElem?_set_ne (Ne.symm e2)];exact b1,by omega,fun x => ?_⟩
    rw [b3 x,htk,List.count_append,List.count_cons_of_ne (Ne.symm e2)];simp
structure L2 (G:Gm) (i:Nat) (s:List Int×List Int×List (List Int)×List Int):Prop where
  lr:s.1.length=G.n
  lo:s.2.1.length=G.n
  bef:L1 G i 0 s.2.2.1
  r:∀ j,j < i→at_ s.1 j=if G.lost j=true then 0 else -1
  o:∀ j,j < i→at_ s.2.1 j=((G.succ j).length:Int)
  k:s.2.2.2=cst ((List.range i).filter G.lost)
end
end
section
section
variable {c:ContractT} {party:Int} {p:PosT} {a:ArenaT}
def Bnd (G:Gm) (r:Nat→Int) (m:Nat):Prop:=∀ i,i < G.n→r i≤m
end
end
section
section
variable {c:ContractT} {party:Int} {p:PosT} {a:ArenaT}
def zgo (G:Gm) (i:Nat):Bool:=G.own i&&(!(G.lost i)&&(G.succ i).isEmpty)
def r2 (G:Gm) (i j:Nat):Int:=if G.lost j=true then 0 else if zgo G j=true∧j < i then 1 else -1
def K2 (G:Gm) (i:Nat):List Nat:=(List.range G.n).filter G.lost++(List.range i).filter (zgo G)
structure L3 (G:Gm) (i:Nat) (s:List Int×List Int):Prop where
  lr:s.1.length=G.n
  r:∀ j,j < G.n→at_ s.1 j=r2 G i j
  k:s.2=cst (K2 G i)
structure QI (G:Gm) (bef:List (List Int)) (s:Int×Bool×List Int×List Int×List Int×Int):Prop where
  lr:s.2.2.1.length=G.n
  lo:s.2.2.2.1.length=G.n
  inv:∃ P Q,BInv G (at_ s.2.2.1) (at_ s.2.2.2.1) P Q∧Bnd G (at_ s.2.2.1) (P++Q).length∧s.2.2.2.2.1=cst (P++Q)∧((s.2.1=false∧Q=[]∧s.2.2.2.2.2=(P.length:Int))∨(s.2.1=true∧∃ u Q',Q=u::Q'∧s.1=(u:Int)∧s.2.2.2.2.2=(P.length:Int)+1))
end
end
theorem StartP.get {c:ContractT} {hs:List Int} {ms r:List MarkT} (h:StartP c hs ms r) {i:Nat} {m:MarkT} (hi:i < c.clauses.length) (hm:ms[i]?=some m) (h0:m.status≠0):r[i]?=some m:=by
  have hl:i < r.length:=by rw [h.ok.1];exact hi
  rw [List.getElem?_eq_getElem hl]
  rcases h.rel i m r[i] hm (List.getElem?_eq_getElem hl) with e | ⟨e,_⟩
  · rw [e]
  · exact absurd e h0
theorem zaN {c:ContractT} {party:Int} {q:PosT} {m:Int} (hm:m∈zz c party q):(m = -2∧q.own=true)∨(-1≤m∧m < c.acts.length∧q.state.day < c.days):=by
  rcases jq.1 hm with ⟨h1,h2⟩ | ⟨h1,_,h2⟩ | ⟨h1,i,h2,_,h3⟩
  · exact .inl ⟨h2,h1⟩
  · exact .inr ⟨by omega,by omega,h1⟩
  · exact .inr ⟨by omega,by omega,h1⟩
theorem Y8 (c:ContractT) (q:PosT):target c q (-2)={state:=q.state,own:=false}:=if_pos rfl
theorem Y9 (c:ContractT) (q:PosT) {m:Int} (h : -1≤m):target c q m={state:=qE c q.state m,own:=true}:=if_neg (by omega)
section
section
variable {c:ContractT} {party:Int} {p:PosT} {a:ArenaT}
theorem ArOk.lost (A:ArOk c party p a) {i:Nat} (hi:i < a.positions.length):(gm c a).lost i=ja c a.positions[i].state party:=by
  show (match a.positions[i]? with | some q=>ja c q.state a.party | none=>false)=_
  rw [List.getElem?_eq_getElem hi,A.pa]
theorem ArOk.own (A:ArOk c party p a) {i:Nat} (hi:i < a.positions.length):(gm c a).own i=a.positions[i].own:=by
  show (match a.positions[i]? with | some q=>q.own | none=>false)=_
  rw [List.getElem?_eq_getElem hi]
theorem ArOk.pos (A:ArOk c party p a):0 < a.positions.length:=(List.getElem?_eq_some_iff.1 A.F.first).1
theorem ArOk.ne (A:ArOk c party p a) {i:Nat} (hi:i < a.positions.length) {T:List MoveT} (hT:a.moves[i]?=some T) (ho:a.positions[i].own=true):T≠[]:=by
  obtain ⟨T',h1,h2,_⟩:=A.mv hi
  rw [hT] at h1;cases h1
  intro e
  subst e
  have:(-2:Int)∈zz c party a.positions[i]:=jq.2 (.inl ⟨ho,rfl⟩)
  rw [←h2] at this;cases this
end
end
section
def AttrP (c:ContractT) (party:Int):Nat→PosT→Prop
  | 0,q=>ja c q.state party=true
  | k+1,q=>ja c q.state party=true∨(q.own=true∧∀ m∈zz c party q,AttrP c party k (target c q m))∨(q.own=false∧∃ m∈zz c party q,AttrP c party k (target c q m))
def zhN (c:ContractT) (party:Int) (q:PosT):Prop:=∀ k,¬ AttrP c party k q
theorem AttrP.zero {c:ContractT} {party:Int} {q:PosT} (h:ja c q.state party=true):∀ k,AttrP c party k q
  | 0=>h
  | k+1=>.inl h
theorem AttrP.succ1 {c:ContractT} {party:Int}:∀ {k:Nat} {q:PosT},AttrP c party k q→AttrP c party (k+1) q
  | 0,q,h=>.inl h
  | k+1,q,h=>by
    rcases h with h | ⟨h1,h2⟩ | ⟨h1,t,h2,h3⟩
    · exact .inl h
    · exact .inr (.inl ⟨h1,fun t ht=>(h2 t ht).succ1⟩)
    · exact .inr (.inr ⟨h1,t,h2,h3.succ1⟩)
theorem AttrP.mono {c:ContractT} {party:Int} {k k':Nat} {q:PosT} (hk:k≤k') (h:AttrP c party k q):AttrP c party k' q:=by
  induction hk with
  | refl=>exact h
  | step _ ih=>exact ih.succ1
section
variable {c:ContractT} {party:Int} {p:PosT} {a:ArenaT}
def RankP (c:ContractT) (party:Int) (q:PosT) (x:Int):Prop := -1≤x∧∀ k:Nat,(x ≠ -1∧x≤k)↔AttrP c party k q
theorem RankP.safe {q:PosT} {x:Int} (h:RankP c party q x):x = -1↔zhN c party q:=by
  constructor
  · intro e k hk
    exact ((h.2 k).2 hk).1 e
  · intro hs
    have:=h.1
    by_cases e:x = -1
    · exact e
    · exact absurd ((h.2 x.toNat).1 ⟨e,by omega⟩) (hs _)
end
end
structure ShieldP (c:ContractT) (s:ShieldT):Prop where
  p0:0≤s.party
  p1:s.party < c.parties
  n1:1≤s.rows.length
  n2:s.rows.length≤1500
  vs:∀ r∈s.rows,VS c r.position.state
  lost:∀ r∈s.rows,ja c r.position.state s.party=false
  own:∀ r∈s.rows,r.position.own=true→r.move∈zz c s.party r.position∧∃ r'∈s.rows,r'.position=target c r.position r.move
  oth:∀ r∈s.rows,r.position.own=false→∀ m∈zz c s.party r.position,∃ r'∈s.rows,r'.position=target c r.position m
structure DoomP (c:ContractT) (d:DoomT):Prop where
  p0:0≤d.party
  p1:d.party < c.parties
  n1:1≤d.rows.length
  n2:d.rows.length≤1500
  vs:∀ r∈d.rows,VS c r.position.state
  rk:∀ r∈d.rows,0≤r.rank
  zero:∀ r∈d.rows,r.rank=0→ja c r.position.state d.party=true
  own:∀ r∈d.rows,0 < r.rank→r.position.own=true→∀ m∈zz c d.party r.position,∃ r'∈d.rows,r'.position=target c r.position m∧r'.rank < r.rank
  oth:∀ r∈d.rows,0 < r.rank→r.position.own=false→r.move∈zz c d.party r.position∧∃ r'∈d.rows,r'.position=target c r.position r.move∧r'.rank < r.rank
section
theorem zeX (c:ContractT) (party:Int) (q:PosT):∃ x,RankP c party q x:=by
  by_cases h:∃ k,AttrP c party k q
  · have least:∀ (n:Nat),AttrP c party n q→∃ k,AttrP c party k q∧∀ j,AttrP c party j q→k≤j:=by
      intro n
      induction n using Nat.strongRecOn with
      | _ n ih=>
        intro hn
        by_cases h2:∃ j,j < n∧AttrP c party j q
        · obtain ⟨j,hj,hp⟩:=h2;exact ih j hj hp
        · exact ⟨n,hn,fun j hj=>Nat.le_of_not_lt fun hlt=>h2 ⟨j,hlt,hj⟩⟩
    obtain ⟨n,hn⟩:=h
    obtain ⟨k,hk,hl⟩:=least n hn
    refine ⟨(k:Int),by omega,fun j=>⟨fun h=>hk.mono (by omega),fun h=>⟨by omega,by have:=hl j h;omega⟩⟩⟩
  · exact ⟨-1,by omega,fun j=>⟨fun h=>absurd rfl h.1,fun h'=>absurd ⟨j,h'⟩ h⟩⟩
open Classical in
noncomputable def rkP (c:ContractT) (party:Int) (q:PosT):Int:=(zeX c party q).choose
section
variable {c:ContractT} {party:Int} {p:PosT} {a:ArenaT}
end
end
def xV (c:ContractT) (F:List (ByteArray×Int)) (l:List (PosT×Int)):Prop:=
  ∀ q:PosT,VS c q.state→(∀ v,zp (txt q) F=some v→(∃ x∈l,x.1=q∧x.2=v)∧∀ x∈l,x.1=q→v≤x.2)∧(zp (txt q) F=none→∀ x∈l,x.1≠q)
theorem zcB (c:ContractT):xV c [] []:=by
  intro q _
  exact ⟨fun v h=>by simp [zp] at h,fun _ x hx=>by simp at hx⟩
theorem zaO {c:ContractT} {F:List (ByteArray×Int)} {l:List (PosT×Int)} {q:PosT} (h:xV c F l) (hq:VS c q.state) (r:Int):xV c (bif (bif !(zp (txt q) F).isSome then true else decide (r < (zp (txt q) F).getD 0)) then z8 (txt q) r F else F) (l++[(q,r)]):=by
  intro q' hq'
  obtain ⟨h1,h2⟩:=h q' hq'
  by_cases e:q'=q
  · subst e
    cases hm:zp (txt q') F with
    | none=>
      have h2:=h2 hm
      show (∀ v,zp (txt q') (z8 (txt q') r F)=some v→_)∧(zp (txt q') (z8 (txt q') r F)=none→_)
      rw [wG]
      refine ⟨fun v hv => ?_,fun hv=>by cases hv⟩
      cases hv
      refine ⟨⟨_,List.mem_append_right _ (List.mem_singleton.2 rfl),rfl,rfl⟩,fun x hx hxq => ?_⟩
      rcases List.mem_append.1 hx with g | g
      · exact absurd hxq (h2 x g)
      · rw [List.mem_singleton.1 g];exact Int.le_refl _
    | some v=>
      obtain ⟨⟨y,hy,hy1,hy2⟩,g2⟩:=h1 v hm
      by_cases hlt:r < v
      · have e2:decide (r < (some v).getD 0)=true:=decide_eq_true hlt
        rw [e2]
        show (∀ v,zp (txt q') (z8 (txt q') r F)=some v→_)∧(zp (txt q') (z8 (txt q') r F)=none→_)
        rw [wG]
        refine ⟨fun w hw => ?_,fun hw=>by cases hw⟩
        cases hw
        refine ⟨⟨_,List.mem_append_right _ (List.mem_singleton.2 rfl),rfl,rfl⟩,fun x hx hxq => ?_⟩
        rcases List.mem_append.1 hx with g | g
        · have:=g2 x g hxq;omega
        · rw [List.mem_singleton.1 g];exact Int.le_refl _
      · have e2:decide (r < (some v).getD 0)=false:=decide_eq_false hlt
        rw [e2]
        show (∀ v,zp (txt q') F=some v→_)∧(zp (txt q') F=none→_)
        rw [hm]
        refine ⟨fun w hw => ?_,fun hw=>by cases hw⟩
        cases hw
        refine ⟨⟨y,List.mem_append_left _ hy,hy1,hy2⟩,fun x hx hxq => ?_⟩
        rcases List.mem_append.1 hx with g | g
        · exact g2 x g hxq
        · rw [List.mem_singleton.1 g];show v≤r;omega
  · have ne:txt q'≠txt q:=fun h=>e (zeT hq' hq h)
    have e1:∀ b:Bool,zp (txt q') (bif b then z8 (txt q) r F else F)=zp (txt q') F:=fun b=>by
      cases b with
      | true=>exact Qk r ne F
      | false=>rfl
    rw [e1]
    refine ⟨fun v hv => ?_,fun hv x hx => ?_⟩
    · obtain ⟨⟨y,hy,hy1,hy2⟩,g2⟩:=h1 v hv
      refine ⟨⟨y,List.mem_append_left _ hy,hy1,hy2⟩,fun x hx hxq => ?_⟩
      rcases List.mem_append.1 hx with g | g
      · exact g2 x g hxq
      · rw [List.mem_singleton.1 g] at hxq;exact absurd hxq.symm e
    · rcases List.mem_append.1 hx with g | g
      · exact h2 hv x g
      · rw [List.mem_singleton.1 g];exact fun h=>e h.symm
theorem zcC {c:ContractT} {F:List (ByteArray×Int)} {l:List (PosT×Int)} (h:xV c F l) {q:PosT} (hq:VS c q.state) {n:Int}:(bif (zp (txt q) F).isSome then decide ((zp (txt q) F).getD 0 < n) else false)=true↔∃ x∈l,x.1=q∧x.2 < n:=by
  obtain ⟨h1,h2⟩:=h q hq
  cases hm:zp (txt q) F with
  | none=>exact ⟨fun h=>by (cases h),fun ⟨x,hx,e,_⟩=>absurd e (h2 hm x hx)⟩
  | some v=>
    obtain ⟨⟨y,hy,hy1,hy2⟩,g2⟩:=h1 v hm
    show decide (v < n)=true↔_
    rw [decide_eq_true_eq]
    refine ⟨fun hv=>⟨y,hy,hy1,by omega⟩,fun ⟨x,hx,e,hlt⟩=>by have:=g2 x hx e;omega⟩
theorem KB {c:ContractT} (hc:c.Ok) (party:Int) (p:PosT):xp c party p=some (bif yS c party p.state then (zz c party p,0) else ([],1)):=by
  unfold xp
  rw [Xq hc]
  simp only [Option.bind_some]
  cases hpl:yS c party p.state with
  | false=>rfl
  | true=>
    obtain ⟨hp0,hp1,hv⟩:=yT.1 hpl
    have sm:=qX (hc.off.lt (by omega)) hv.cv
    have sa:=sm.acts
    simp only [cond_true,yJ,Option.bind_some,Yr hc hv]
    have e1:(bif p.own then (Option.bind (zS (α:=Int) 8 [] [(-2)]) fun e1=>some e1) else some [])=some (bif p.own then [-2] else []):=by
      rw [XR (by simp)];cases p.own<;>rfl
    rw [e1]
    simp only [Option.bind_some]
    cases hd:decide (c.days≤p.state.day) with
    | true=>simp only [cond_true,Option.bind_some,zz,hd,List.append_nil]
    | false=>
      have hd':=of_decide_eq_false hd
      obtain ⟨est,_⟩:=wE (a := -1) hc hv (by omega) (by omega) (by omega)
      have e2:(bif p.own then some (bif p.own then [-2] else []) else (Option.bind (d_Step c p.state (-1)) fun r4=>(Option.bind (zS (α:=Int) 8 (bif p.own then [-2] else []) [(-1)]) fun e2=>some e2)))=some (bif p.own then [-2] else [-1]):=by
        cases p.own with
        | true=>rfl
        | false=>rw [est];simp only [cond_false,Option.bind_some,List.nil_append];rw [XR (by simp)];rfl
      simp only [cond_false]
      rw [e2]
      simp only [Option.bind_some]
      have hloop:forR (σ:=(List Int)) (ρ:=(List Int)) (c.acts.length:Int) (fun i1 s1=>(Option.bind (α:=(List Int) ⊕ (List Int)) (Option.bind (ze c.acts (i1:Int)) fun e3=>(Option.bind (bif (e3.role == (-1)) then some (-1) else (Option.bind (ze p.state.holders e3.role) fun e4=>some e4)) fun (v3:Int)=>(bif ((v3 == party) == p.own) then (Option.bind (d_Step c p.state (i1:Int)) fun r5=>(Option.bind (Option.bind (jD r5.1 p.state) fun r6=>(bif r6 then some (false,s1) else (Option.bind (zS (α:=Int) 8 s1 [(i1:Int)]) fun e5=>some ((!true),e5)))) fun (v4:Bool×(List Int))=>(bif v4.1 then some (.inr v4.2) else some (.inl v4.2)))) else some (.inl s1)))) (Sum.elim (fun (v5:(List Int))=>some (.inl v5)) (fun (y1:(List Int))=>some (.inr y1))))) (bif p.own then [-2] else [-1])
          = some (.inl ((bif p.own then [-2] else [-1])++xr c party p c.acts.length)):=by
        obtain ⟨o,h1,h2⟩:=xn (n:=c.acts.length) (s0:=(bif p.own then [(-2:Int)] else [-1])) (f:=(fun i1 s1=>(Option.bind (α:=(List Int) ⊕ (List Int)) (Option.bind (ze c.acts (i1:Int)) fun e3=>(Option.bind (bif (e3.role == (-1)) then some (-1) else (Option.bind (ze p.state.holders e3.role) fun e4=>some e4)) fun (v3:Int)=>(bif ((v3 == party) == p.own) then (Option.bind (d_Step c p.state (i1:Int)) fun r5=>(Option.bind (Option.bind (jD r5.1 p.state) fun r6=>(bif r6 then some (false,s1) else (Option.bind (zS (α:=Int) 8 s1 [(i1:Int)]) fun e5=>some ((!true),e5)))) fun (v4:Bool×(List Int))=>(bif v4.1 then some (.inr v4.2) else some (.inl v4.2)))) else some (.inl s1)))) (Sum.elim (fun (v5:(List Int))=>some (.inl v5)) (fun (y1:(List Int))=>some (.inr y1)))))) (fun i s=>s=(bif p.own then [-2] else [-1])++xr c party p i) (fun _=>False) (by omega) (by simp [xr]) (fun i s hi hs=>by
          have hx:=List.getElem?_eq_getElem hi
          have av:=Vm hv.cv hx
          rw [zV hx]
          simp only [Option.bind_some,Ys hv av]
          have hmv:mvB c party p i=(((jR p.state.holders c.acts[i] == party) == p.own) && !j5 (qE c p.state i) p.state):=by simp only [mvB,hx]
          cases hq:((jR p.state.holders c.acts[i] == party) == p.own) with
          | false=>
            refine ⟨.inl s,rfl,?_⟩
            show s=_
            rw [Zt,hmv,hq,hs];simp
          | true=>
            obtain ⟨est,hvs,_⟩:=wE (a:=(i:Int)) hc hv (by omega) (by omega) (by omega)
            have hfew:=hvs.few hc
            rw [est]
            simp only [cond_true,Option.bind_some]
            rw [Ky _ _ (by omega) (by omega) (by omega)]
            simp only [Option.bind_some]
            cases hsm:j5 (qE c p.state i) p.state with
            | true=>
              refine ⟨.inl s,rfl,?_⟩
              show s=_
              rw [Zt,hmv,hq,hsm,hs];simp
            | false=>
              have hl:=WO c party p i
              have hls:s.length≤1+i:=by rw [hs];cases p.own<;>simp<;>omega
              simp only [cond_false]
              rw [XR (by simp;omega)]
              refine ⟨.inl (s++[(i:Int)]),rfl,?_⟩
              show s++[(i:Int)]=_
              rw [Zt,hmv,hq,hsm,hs];simp)
        rw [h1]
        cases o with
        | inl s=>exact congrArg _ (congrArg _ h2)
        | inr r=>exact h2.elim
      rw [hloop]
      simp only [Option.bind_some,Sum.elim_inl,zz,hd,cond_false]
      cases p.own<;>rfl
theorem zaP {c:ContractT} (hc:c.Ok) {party:Int} {p:PosT} (move:Int) (hv:VS c p.state) (hd:p.state.day < c.days) :
    forR (σ:=Unit) (ρ:=Int×(List Int)×(List Bool)×(List MarkT)) (c.acts.length:Int) (fun i1 s1=>(Option.bind (α:=Unit ⊕ (Int×(List Int)×(List Bool)×(List MarkT))) (Option.bind (ze c.acts (i1:Int)) fun e1=>(Option.bind (bif (e1.role == (-1)) then some (-1) else (Option.bind (ze p.state.holders e1.role) fun e2=>some e2)) fun (v3:Int)=>(bif ((v3 == party) == p.own) then (Option.bind (d_Step c p.state (i1:Int)) fun r5=>(Option.bind (jD r5.1 p.state) fun r6=>(bif r6 then some (.inl ()) else (bif ((i1:Int) == move) then some (.inr (r5.1.day,r5.1.holders,r5.1.used,r5.1.marks)) else some (.inl ()))))) else some (.inl ())))) (Sum.elim (fun (v4:Unit)=>some (.inl ())) (fun (y4:Int×(List Int)×(List Bool)×(List MarkT))=>some (.inr (y4.1,y4.2.1,y4.2.2.1,y4.2.2.2)))))) ()
      = some (if move∈xr c party p c.acts.length then .inr (Xr (qE c p.state move)) else .inl ()):=by
  have sm:=qX (hc.off.lt (by omega)) hv.cv
  have sa:=sm.acts
  rw [jo (fun i=>!(mvB c party p i&&(i:Int) == move)) (fun i=>Xr (qE c p.state i)) (by omega) (fun i hi=>by
    have hx:=List.getElem?_eq_getElem hi
    have av:=Vm hv.cv hx
    rw [zV hx]
    simp only [Option.bind_some,Ys hv av]
    have hmv:mvB c party p i=(((jR p.state.holders c.acts[i] == party) == p.own) && !j5 (qE c p.state i) p.state):=by simp only [mvB,hx]
    rw [hmv]
    cases hq:((jR p.state.holders c.acts[i] == party) == p.own) with
    | false=>rfl
    | true=>
      obtain ⟨est,hvs,_⟩:=wE (a:=(i:Int)) hc hv (by omega) (by omega) (by omega)
      have hfew:=hvs.few hc
      rw [est]
      simp only [cond_true,Option.bind_some]
      rw [Ky _ _ (by omega) (by omega) (by omega)]
      simp only [Option.bind_some]
      cases hsm:j5 (qE c p.state i) p.state with
      | true=>rfl
      | false=>cases ((i:Int) == move)<;>rfl)]
  cases hf:(List.range c.acts.length).find? (fun j=>!(!(mvB c party p j&&(j:Int) == move))) with
  | none=>
    have:=xd hf
    rw [if_neg]
    intro hm
    obtain ⟨i,hi,hmv,rfl⟩:=yu.1 hm
    have:=this i hi
    simp [hmv] at this
  | some k=>
    obtain ⟨h1,h2,_⟩:=xe hf
    simp only [Bool.not_eq_false',Bool.and_eq_true,beq_iff_eq] at h2
    rw [if_pos (yu.2 ⟨k,h1,h2.1,h2.2.symm⟩)]
    show some (Sum.inr (Xr (qE c p.state (k:Int))))=_
    rw [h2.2]
theorem zeY {c:ContractT} (hc:c.Ok) {party:Int} {p:PosT} (move:Int) (h:yS c party p.state=true):kJ c party p move=some (if move∈zz c party p then (target c p move,0) else (noP,13)):=by
  obtain ⟨hp0,hp1,hv⟩:=yT.1 h
  unfold kJ
  rw [Xq hc,h]
  simp only [Option.bind_some,cond_true,yJ,Yr hc hv,zeQ,zeR]
  by_cases h2:p.own=true∧move = -2
  · obtain ⟨e1,rfl⟩:=h2
    have hm:(-2:Int)∈zz c party p:=jq.2 (.inl ⟨e1,rfl⟩)
    rw [if_pos hm,e1];rfl
  · by_cases hd:c.days≤p.state.day
    · have hm:¬ move∈zz c party p:=fun hm=>by
        rcases jq.1 hm with h | h | h
        · exact h2 h
        · omega
        · omega
      rw [if_neg hm]
      simp only [hd,decide_true,cond_true]
      cases ho:p.own with
      | false=>rfl
      | true=>
        have:¬ move = -2:=fun e=>h2 ⟨ho,e⟩
        simp only [this,decide_false,cond_true,cond_false];rfl
    · have e0:(bif p.own then (bif decide (move = -2) then some (.inr (.inl (p.state.day,p.state.holders,p.state.used,p.state.marks))) else (bif decide (c.days≤p.state.day) then some (.inr (.inr ())) else some (.inl ()))) else (bif decide (c.days≤p.state.day) then some (.inr (.inr ())) else some (.inl ())))=some (.inl ():Unit ⊕ ((Int×(List Int)×(List Bool)×(List MarkT)) ⊕ Unit)):=by
        simp only [hd,decide_false,cond_false]
        cases ho:p.own with
        | false=>rfl
        | true=>
          have:¬ move = -2:=fun e=>h2 ⟨ho,e⟩
          simp only [this,decide_false,cond_true,cond_false]
      rw [e0]
      simp only [Option.bind_some,Sum.elim_inl]
      rw [zaP hc move hv (by omega)]
      obtain ⟨est,_⟩:=wE (a := -1) hc hv (by omega) (by omega) (by omega)
      rw [est]
      simp only [Option.bind_some]
      by_cases h1:p.own=false∧move = -1
      · obtain ⟨e1,rfl⟩:=h1
        have hm:(-1:Int)∈zz c party p:=jq.2 (.inr (.inl ⟨by omega,e1,rfl⟩))
        rw [if_pos hm,e1];rfl
      · have e1:(bif p.own then some (.inl ()) else (bif decide (move = -1) then some (.inr ((qE c p.state (-1)).day,(qE c p.state (-1)).holders,(qE c p.state (-1)).used,(qE c p.state (-1)).marks)) else some (.inl ())))=some (.inl ():Unit ⊕ (Int×(List Int)×(List Bool)×(List MarkT))):=by
          cases ho:p.own with
          | true=>rfl
          | false=>
            have:¬ move = -1:=fun e=>h1 ⟨ho,e⟩
            simp only [this,decide_false,cond_false]
        rw [e1]
        simp only [Option.bind_some,Sum.elim_inl]
        by_cases ha:move∈xr c party p c.acts.length
        · obtain ⟨i,hi,hmv,rfl⟩:=yu.1 ha
          have hm:(i:Int)∈zz c party p:=jq.2 (.inr (.inr ⟨by omega,i,hi,hmv,rfl⟩))
          rw [if_pos ha,if_pos hm]
          have:¬ (i:Int) = -2:=by omega
          simp only [Option.bind_some,Sum.elim_inr,Xr,target,this,if_false]
        · have hm:¬ move∈zz c party p:=fun hm=>by
            rcases jq.1 hm with h | h | ⟨_,i,hi,hmv,rfl⟩
            · exact h2 h
            · exact h1 h.2
            · exact ha (yu.2 ⟨i,hi,hmv,rfl⟩)
          rw [if_neg ha,if_neg hm];rfl
section
theorem zaQ (l:List Int) (v:Int) (hl:l.length < 4611686018427387904):jP l v=some (l.contains v):=by
  unfold jP XY
  rw [jo (fun q=>match l[q]? with | some x=>!(v == x) | none=>true) (fun q=>(q:Int)) hl (fun q hq=>by
    simp only [zQ,List.getElem?_eq_getElem hq,Option.bind_some]
    cases (v == l[q])<;>rfl)]
  cases hf:(List.range l.length).find? (fun q=>!(match l[q]? with | some x=>!(v == x) | none=>true)) with
  | none=>
    have:l.contains v=false:=by
      rw [Bool.eq_false_iff]
      intro hm
      rw [List.contains_iff_mem] at hm
      obtain ⟨q,hq,e⟩:=List.getElem_of_mem hm
      have:=xd hf q hq
      simp only [List.getElem?_eq_getElem hq] at this
      rw [e] at this
      simp at this
    rw [this];rfl
  | some q=>
    obtain ⟨h1,h2,_⟩:=xe hf
    have:l.contains v=true:=by
      rw [List.contains_iff_mem]
      simp only [List.getElem?_eq_getElem h1,Bool.not_eq_false',beq_iff_eq] at h2
      rw [h2];exact List.getElem_mem h1
    rw [this]
    simp
theorem zdz {l:List Int} {f:Nat→Unit→Option (Unit ⊕ Int)} (p:Int→Bool) (hl:l.length < 4611686018427387904) (h:∀ (i:Nat) (hi:i < l.length),f i ()=some (bif p l[i] then .inr (i:Int) else .inl ())) :
    (Option.bind (forR (l.length:Int) f ()) (Sum.elim (fun (_:Unit)=>some (-1)) (fun (y:Int)=>some y))).bind (fun r=>some (decide (0≤r)))=some (l.any p):=by
  rw [jo (fun q=>match l[q]? with | some x=>!(p x) | none=>true) (fun q=>(q:Int)) hl (fun q hq=>by
    rw [h q hq]
    simp only [List.getElem?_eq_getElem hq]
    cases p l[q]<;>rfl)]
  cases hf:(List.range l.length).find? (fun q=>!(match l[q]? with | some x=>!(p x) | none=>true)) with
  | none=>
    have:l.any p=false:=by
      rw [List.any_eq_false]
      intro x hx
      obtain ⟨q,hq,e⟩:=List.getElem_of_mem hx
      have:=xd hf q hq
      simp only [List.getElem?_eq_getElem hq,e] at this
      simpa using this
    rw [this];rfl
  | some q=>
    obtain ⟨h1,h2,_⟩:=xe hf
    have:l.any p=true:=by
      rw [List.any_eq_true]
      simp only [List.getElem?_eq_getElem h1] at h2
      exact ⟨_,List.getElem_mem h1,by simpa using h2⟩
    rw [this]
    simp
section
variable {c:ContractT} {party:Int} {F:List (ByteArray×Int)}
theorem zcD (hc:c.Ok) {p:PosT} (hv:VS c p.state) {m:Int} (hm:m∈zz c party p) (q:Int):wb p m c q F=some ((zp (txt (target c p m)) F).getD 0,(zp (txt (target c p m)) F).isSome):=by
  unfold wb
  rcases zaN hm with ⟨rfl,_⟩ | ⟨h1,h2,h3⟩
  · have ht:=Yv hc (p:={state:=p.state,own:=false}) hv
    show Option.bind (qF ({state:=p.state,own:=false}:PosT)) _=_
    rw [ht,Y8];rfl
  · obtain ⟨e,hv2,_,_⟩:=wE hc hv h1 h2 h3
    have hne:(m == (-2:Int))=false:=beq_eq_false_iff_ne.2 (by omega)
    have ht:=Yv hc (p:={state:=qE c p.state m,own:=true}) hv2
    simp only [hne,cond_false,e,Option.bind_some,Bool.not_false]
    show Option.bind (qF ({state:=qE c p.state m,own:=true}:PosT)) _=_
    rw [ht,Y9 c p h1];rfl
def blB (F:List (ByteArray×Int)) (n:Int) (q:PosT):Bool:=bif (zp (txt q) F).isSome then decide ((zp (txt q) F).getD 0 < n) else false
theorem KC (hc:c.Ok) {p:PosT} (hv:VS c p.state) {m:Int} (hm:m∈zz c party p) (n q:Int):wc p m n c q F=some (blB F n (target c p m)):=by
  unfold wc
  rw [zcD hc hv hm]
  simp only [Option.bind_some,zj]
  rfl
theorem zhO (hc:c.Ok) {p:PosT} (hv:VS c p.state) (n q:Int):Zp (zz c party p) p n c q F=some ((zz c party p).any fun m=>!blB F n (target c p m)):=by
  have:=yU hc (party:=party) hv
  unfold Zp QD
  rw [zdz (l:=zz c party p) (fun m=>!blB F n (target c p m)) (by omega) fun i hi=>by
    simp only [zQ,List.getElem?_eq_getElem hi,Option.bind_some,kH]
    rw [KC hc hv (List.getElem_mem hi)];simp only [Option.bind_some,zj]]
noncomputable def doB (c:ContractT) (party:Int) (F:List (ByteArray×Int)) (r:DoomRowT):Bool:=
  bif decide (r.rank≤0) then r.rank == 0&&ja c r.position.state party
  else bif r.position.own then !((zz c party r.position).any fun m=>!blB F r.rank (target c r.position m)) else (zz c party r.position).contains r.move&&blB F r.rank (target c r.position r.move)
theorem zgp (hc:c.Ok) {s:DoomT} {i:Nat} (hi:i < s.rows.length) (h0:0≤party) (h1:party < c.parties) (hv:VS c s.rows[i].position.state):yo ({d:=s}:DoomW) (i:Int) c party F=some (doB c party F s.rows[i]):=by
  have hl:=yU hc (party:=party) hv
  unfold yo vw doB
  rw [zV (List.getElem?_eq_getElem hi)]
  simp only [Option.bind_some]
  rw [Yx hc hv h0 h1]
  simp only [Option.bind_some]
  generalize s.rows[i]=r at *
  cases decide (r.rank≤0) with
  | true=>cases (r.rank == 0)<;>cases ja c r.position.state party<;>rfl
  | false=>
    have hmv:xp c party r.position=some (zz c party r.position,0):=by
      rw [KB hc,yT.2 ⟨h0,h1,hv⟩];rfl
    simp only [cond_false,hmv,Option.bind_some]
    rw [zaQ _ _ (by omega),zhO hc hv]
    simp only [Option.bind_some]
    cases r.position.own with
    | true=>rfl
    | false=>
      simp only [cond_false]
      cases hm:(zz c party r.position).contains r.move with
      | false=>rfl
      | true=>
        have hm':=List.contains_iff_mem.1 hm
        simp only [cond_true,KC hc hv hm',Option.bind_some,Bool.true_and]
theorem zdA (hc:c.Ok) {α:Type} (rows:List α) (pos:α→PosT) (rk:α→Int) (hl:rows.length < 4611686018427387904) (row:Int→Option (PosT×Int)) (hrow:∀ (i:Nat) (hi:i < rows.length),row (i:Int)=some (pos rows[i],rk rows[i])) {x:Option (List (ByteArray×Int) ⊕ Unit)}
    (hx:x=forR (σ:=(List (ByteArray×Int))) (ρ:=Unit) (rows.length:Int) (fun i1 s1=>(Option.bind (α:=(List (ByteArray×Int)) ⊕ Unit) (Option.bind (row (i1:Int)) fun r5=>(Option.bind (qK c r5.1.state) fun r6=>(bif r6 then (Option.bind (qF r5.1) fun r7=>(Option.bind (bif ((zp r7 s1).isSome) then some (decide (r5.2 < ((zp r7 s1).getD 0))) else some true) fun v2=>(bif v2 then some (.inl (z8 r7 r5.2 s1)) else some (.inl s1)))) else some (.inr ())))) (Sum.elim (fun (v3:(List (ByteArray×Int)))=>some (.inl v3)) (fun (y1:Unit)=>some (.inr ()))))) []) :
    Ret x (fun o=>(∃ F,o=.inl F∧xV c F (rows.map fun r=>(pos r,rk r))∧∀ r∈rows,VS c (pos r).state)∨(o=.inr ()∧∃ r∈rows,¬ VS c (pos r).state)):=by
  subst hx
  refine Ret.forL (fun i F=>xV c F ((rows.take i).map fun r=>(pos r,rk r))∧∀ (j:Nat) (hj:j < rows.length),j < i→VS c (pos rows[j]).state) hl ⟨zcB c,fun j _ hj=>by omega⟩ (fun i F hi hI => ?_) (fun F h => ?_)
  · obtain ⟨h1,h2⟩:=hI
    refine Ret.bind (P:=fun o=>(∃ F',o=.inl F'∧(xV c F' ((rows.take (i+1)).map fun r=>(pos r,rk r))∧∀ (j:Nat) (hj:j < rows.length),j < i+1→VS c (pos rows[j]).state))∨(o=.inr ()∧∃ r∈rows,¬ VS c (pos r).state)) ?_ ?_
    · refine Ret.bindE (hrow i hi) ?_
      refine Ret.bindE (Zr c _ hc) ?_
      refine Ret.ite (fun hv => ?_) (fun hv=>Ret.some (.inr ⟨rfl,_,List.getElem_mem hi,fun h=>by rw [Xo h] at hv;cases hv⟩))
      have hv:=zd4 hv
      refine Ret.bindE (Yv hc hv) ?_
      have hs:=zaO h1 hv (rk rows[i])
      have et:(rows.take (i+1)).map (fun r=>(pos r,rk r))=(rows.take i).map (fun r=>(pos r,rk r))++[(pos rows[i],rk rows[i])]:=by
        rw [List.take_succ_eq_append_getElem hi,List.map_append];rfl
      have hvs:∀ (j:Nat) (hj:j < rows.length),j < i+1→VS c (pos rows[j]).state:=fun j hj hji=>by
        by_cases e:j=i
        · subst e;exact hv
        · exact h2 j hj (by omega)
      rw [←et] at hs
      refine Ret.bindE (v:=(bif !(zp (txt (pos rows[i])) F).isSome then true else decide (rk rows[i] < (zp (txt (pos rows[i])) F).getD 0))) ?_ ?_
      · cases (zp (txt (pos rows[i])) F).isSome<;>rfl
      · refine Ret.ite (fun hb => ?_) (fun hb => ?_)
        · rw [hb] at hs
          exact Ret.some (.inl ⟨_,rfl,hs,hvs⟩)
        · rw [hb] at hs
          exact Ret.some (.inl ⟨_,rfl,hs,hvs⟩)
    · rintro o (⟨F',rfl,h⟩ | ⟨rfl,h⟩)
      · exact Ret.some h
      · exact Ret.some (.inr ⟨rfl,h⟩)
  · refine .inl ⟨F,rfl,?_,fun r hr => ?_⟩
    · have:=h.1
      rwa [List.take_of_length_le (Nat.le_refl _)] at this
    · obtain ⟨j,hj,rfl⟩:=List.getElem_of_mem hr
      exact h.2 j hj hj
theorem KF {l:List (PosT×Int)} {rows:List DoomRowT} (hF:xV c F l) (hl:∀ q n,(∃ x∈l,x.1=q∧x.2 < n)↔∃ r∈rows,r.position=q∧r.rank < n) {r:DoomRowT} (hc:c.Ok) (hv:VS c r.position.state):doB c party F r=true↔0≤r.rank∧(r.rank=0→ja c r.position.state party=true)∧(0 < r.rank→r.position.own=true→∀ m∈zz c party r.position,∃ r'∈rows,DoomRowT.position r'=target c r.position m∧DoomRowT.rank r' < r.rank)∧(0 < r.rank→r.position.own=false→r.move∈zz c party r.position∧∃ r'∈rows,DoomRowT.position r'=target c r.position r.move∧DoomRowT.rank r' < r.rank):=by
  have kn:∀ m∈zz c party r.position,(blB F r.rank (target c r.position m)=true↔∃ r'∈rows,DoomRowT.position r'=target c r.position m∧DoomRowT.rank r' < r.rank):=fun m hm=>(zcC hF (zcy hc hv hm)).trans (hl _ _)
  unfold doB
  by_cases h0:r.rank≤0
  · rw [decide_eq_true h0,cond_true,Bool.and_eq_true,beq_iff_eq]
    constructor
    · rintro ⟨g1,g2⟩
      exact ⟨by omega,fun _=>g2,fun h=>by omega,fun h=>by omega⟩
    · rintro ⟨g1,g2,_⟩
      have:r.rank=0:=by omega
      exact ⟨this,g2 this⟩
  · rw [decide_eq_false h0,cond_false]
    cases ho:r.position.own with
    | true=>
      rw [cond_true,Bool.not_eq_true',List.any_eq_false]
      constructor
      · intro g
        refine ⟨by omega,fun h=>by omega,fun _ _ m hm=>(kn m hm).1 ?_,fun _ h=>by cases h⟩
        have:=g m hm
        simpa using this
      · rintro ⟨_,_,g,_⟩ m hm
        have:=(kn m hm).2 (g (by omega) rfl m hm)
        simp [this]
    | false=>
      rw [cond_false,Bool.and_eq_true,List.contains_iff_mem]
      constructor
      · rintro ⟨g1,g2⟩
        exact ⟨by omega,fun h=>by omega,fun _ h=>by (cases h),fun _ _=>⟨g1,(kn _ g1).1 g2⟩⟩
      · rintro ⟨_,_,_,g⟩
        obtain ⟨g1,g2⟩:=g (by omega) rfl
        exact ⟨g1,(kn _ g1).2 g2⟩
end
open Classical in
open Classical in
noncomputable def Vo (c:ContractT) (d:DoomT):Bool:=decide (DoomP c d)
theorem WQ {c:ContractT} {d:DoomT}:Vo c d=true↔DoomP c d:=by unfold Vo;simp
theorem zdB {c:ContractT} {d:DoomT} {b:Bool} (h:b=true↔DoomP c d):b=Vo c d:=by
  rw [Bool.eq_iff_iff,h,WQ]
theorem Ka {c:ContractT} (hc:c.Ok) (s:DoomT) (hl:s.rows.length < 4611686018427387904):qP c s=some (Vo c s):=by
  refine Ret.eq (Ret.mono (P:=fun b=>b=true↔DoomP c s) ?_ fun b h=>zdB h)
  unfold qP kI
  refine Ret.bind (P:=fun b=>b=true↔DoomP c s) ?_ (fun b h=>Ret.some h)
  refine Ret.bindE (v:=s.party) rfl ?_
  simp only [jv,Option.bind_some]
  refine Ret.bindE (v := !(decide (0≤s.party)&&(decide (s.party < c.parties)&&(decide (1≤s.rows.length)&&decide (s.rows.length≤1500))))) ?_ ?_
  · by_cases h1:s.party < 0
    · rw [decide_eq_true h1,decide_eq_false (show ¬ 0≤s.party by omega)];rfl
    · rw [decide_eq_false h1,decide_eq_true (show 0≤s.party by omega)]
      by_cases h2:c.parties≤s.party
      · rw [decide_eq_true h2,decide_eq_false (show ¬ s.party < c.parties by omega)];rfl
      · rw [decide_eq_false h2,decide_eq_true (show s.party < c.parties by omega)]
        by_cases h3:(s.rows.length:Int) < 1
        · rw [decide_eq_true h3,decide_eq_false (show ¬ 1≤s.rows.length by omega)];rfl
        · rw [decide_eq_false h3,decide_eq_true (show 1≤s.rows.length by omega)]
          by_cases h4:(1500:Int) < (s.rows.length:Int)
          · rw [decide_eq_true h4,decide_eq_false (show ¬ s.rows.length≤1500 by omega)];rfl
          · rw [decide_eq_false h4,decide_eq_true (show s.rows.length≤1500 by omega)];rfl
  refine Ret.ite (fun hb=>Ret.some ⟨fun h=>by (cases h),fun h => ?_⟩) (fun hb => ?_)
  · rw [decide_eq_true h.p0,decide_eq_true h.p1,decide_eq_true h.n1,decide_eq_true h.n2] at hb;cases hb
  simp only [Bool.not_eq_false',Bool.and_eq_true,decide_eq_true_eq] at hb
  obtain ⟨p0,p1,n1,n2⟩:=hb
  refine Ret.bind (zdA hc s.rows (·.position) (·.rank) hl (kG ({d:=s}:DoomW)) (fun i hi=>by unfold kG;rw [zV (List.getElem?_eq_getElem hi)];rfl) rfl) ?_
  rintro _ (⟨F,rfl,hF,hvs⟩ | ⟨rfl,r,hr,hn⟩)
  · simp only [Sum.elim_inl]
    have hll:∀ q n,(∃ x∈s.rows.map (fun r=>(r.position,r.rank)),x.1=q∧x.2 < n)↔∃ r∈s.rows,r.position=q∧r.rank < n:=fun q n=>by
      constructor
      · rintro ⟨x,hx,e⟩
        obtain ⟨r,hr,rfl⟩:=List.mem_map.1 hx
        exact ⟨r,hr,e⟩
      · rintro ⟨r,hr,e⟩
        exact ⟨_,List.mem_map.2 ⟨r,hr,rfl⟩,e⟩
    have key:s.rows.all (doB c s.party F)=true↔DoomP c s:=by
      rw [List.all_eq_true]
      constructor
      · intro h
        have h':=fun r hr=>(KF hF hll hc (hvs r hr)).1 (h r hr)
        exact ⟨p0,p1,n1,n2,hvs,fun r hr=>(h' r hr).1,fun r hr=>(h' r hr).2.1,fun r hr=>(h' r hr).2.2.1,fun r hr=>(h' r hr).2.2.2⟩
      · intro h r hr
        exact (KF hF hll hc (hvs r hr)).2 ⟨h.rk r hr,h.zero r hr,h.own r hr,h.oth r hr⟩
    rw [wA (l:=s.rows) (doB c s.party F) hl (fun i hi=>by
      rw [zgp hc hi p0 p1 (hvs _ (List.getElem_mem hi))];simp only [Option.bind_some,zj])]
    cases hall:s.rows.all (doB c s.party F) with
    | true=>exact Ret.some ⟨fun _=>key.1 hall,fun _=>rfl⟩
    | false=>exact Ret.some ⟨fun h=>by (cases h),fun h=>by rw [key.2 h] at hall;cases hall⟩
  · exact Ret.some ⟨fun h=>by (cases h),fun h=>absurd (h.vs r hr) hn⟩
end
end Go.Proofs.YtmoedieenlaegaaGreatDoor
namespace Go.Proofs.YtmoedieenlaegaaGreatDoor
set_option linter.unusedSimpArgs false
set_option linter.unusedVariables false
set_option maxRecDepth 100000
def Le {α:Type} (x y:Option α):Prop:=∀ r,x=some r→y=some r
theorem Le.refl {α:Type} (x:Option α):Le x x:=fun _ h=>h
theorem Le.bind {α β:Type} {x y:Option α} {f g:α→Option β} (h:Le x y) (hf:∀ a,Le (f a) (g a)):Le (x.bind f) (y.bind g):=fun r hr=>by
  obtain ⟨a,h1,h2⟩:=Option.bind_eq_some_iff.1 hr
  rw [h a h1];exact hf a r h2
theorem Le.cond {α:Type} (b:Bool) {x y x' y':Option α} (h1:Le x x') (h2:Le y y'):Le (bif b then x else y) (bif b then x' else y'):=by
  cases b
  · exact h2
  · exact h1
theorem Le.elim {α β γ:Type} {f f':α→Option γ} {g g':β→Option γ} (h1:∀ a,Le (f a) (f' a)) (h2:∀ a,Le (g a) (g' a)) (o:α ⊕ β):Le (Sum.elim f g o) (Sum.elim f' g' o):=by
  cases o
  · exact h1 _
  · exact h2 _
theorem Le.forFrom {σ ρ:Type} {f g:Nat→σ→Option (σ ⊕ ρ)} (h:∀ i s,Le (f i s) (g i s)):∀ (k i:Nat) (s:σ),Le (forFrom f i k s) (forFrom g i k s)
  | 0,i,s=>Le.refl _
  | k+1,i,s=>fun r hr=>by
    simp only [Go.Proofs.YtmoedieenlaegaaGreatDoor.forFrom] at hr ⊢
    split at hr
    · cases hr
    · rename_i e;rw [h i s _ e];exact hr
    · rename_i e;rw [h i s _ e];exact Le.forFrom h k (i+1) _ r hr
theorem Le.forR {σ ρ:Type} {f g:Nat→σ→Option (σ ⊕ ρ)} (h:∀ i s,Le (f i s) (g i s)) (n:Int) (s:σ):Le (forR n f s) (forR n g s):=fun r hr=>by
  obtain ⟨h1,h2⟩:=Wr hr
  rw [kW h1];exact Le.forFrom h _ _ _ r h2
theorem Le.iterN {σ ρ:Type} {f g:σ→Option (σ ⊕ ρ)} (h:∀ s,Le (f s) (g s)):∀ (k:Nat) (s:σ),Le (Go.Proofs.YtmoedieenlaegaaGreatDoor.iterN f k s) (Go.Proofs.YtmoedieenlaegaaGreatDoor.iterN g k s)
  | 0,s=>Le.refl _
  | k+1,s=>fun r hr=>by
    simp only [Go.Proofs.YtmoedieenlaegaaGreatDoor.iterN] at hr ⊢
    split at hr
    · cases hr
    · rename_i e;rw [h s _ e];exact hr
    · rename_i e;rw [h s _ e];exact Le.iterN h k _ r hr
theorem Le.iter {σ ρ:Type} {f g:σ→Option (σ ⊕ ρ)} (h:∀ s,Le (f s) (g s)) (k:Nat) (s:σ):Le (Go.Proofs.YtmoedieenlaegaaGreatDoor.iterN f k s) (Go.Proofs.YtmoedieenlaegaaGreatDoor.iter g s):=fun r hr=>vk.2 ⟨k,Le.iterN h k s r hr⟩
def X4:Nat→Nat→List UInt8
  | 0,u=>[]
  | f+1,u=>if u < 10 then [UInt8.ofNat (48+u)] else X4 f (u / 10)++[UInt8.ofNat (48+u % 10)]
theorem X5:∀ (f u:Nat),u < 10 ^ (f+1)→X4 (f+1) u=Lib.decDigits u
  | 0,u,h=>by
    rw [Lib.decDigits]
    simp only [X4]
    rw [if_pos (by omega),dif_pos (by omega)]
  | f+1,u,h=>by
    rw [Lib.decDigits,X4]
    by_cases hu:u < 10
    · rw [if_pos hu,dif_pos hu]
    · rw [if_neg hu,dif_neg hu,X5 f (u / 10) (by rw [Nat.pow_succ] at h;omega)]
def xh (n:Int):Bool:=decide (-1000 < n)&&decide (n < 1000)
def zaR (n:Int):List UInt8:=if n < 0 then 45::X4 4 n.natAbs else X4 4 n.toNat
theorem zdC {n:Int} (h:xh n=true):zaR n=Lib.itoa n:=by
  simp only [xh,Bool.and_eq_true,decide_eq_true_eq] at h
  unfold zaR Lib.itoa
  rw [X5 3 n.natAbs (by omega),X5 3 n.toNat (by omega)]
def wH (n:Int):List UInt8:=zaR n++[32]
theorem vV {n:Int} (h:xh n=true):wH n=zM n:=by unfold wH zM;rw [zdC h]
def zd6 (m:MarkT):List UInt8:=wH m.status++wH m.left++wH m.got++wH m.bearer++qh m.paused
def Yy (m:MarkT):Bool:=xh m.status&&(xh m.left&&(xh m.got&&xh m.bearer))
def Xs (p:PosT):List UInt8:=qh p.own++wH p.state.day++p.state.holders.flatMap wH++p.state.used.flatMap qh++p.state.marks.flatMap zd6
def Ql (p:PosT):Bool:=xh p.state.day&&(p.state.holders.all xh&&p.state.marks.all Yy)
theorem yv {α β:Type} {f g:α→List β}:∀ {l:List α},(∀ a∈l,f a=g a)→l.flatMap f=l.flatMap g
  | [],_=>rfl
  | a::l,h=>by rw [List.flatMap_cons,List.flatMap_cons,h a List.mem_cons_self,yv fun b hb=>h b (List.mem_cons_of_mem _ hb)]
theorem zdD {p:PosT} (h:Ql p=true):Xs p=z1 p:=by
  simp only [Ql,Bool.and_eq_true,List.all_eq_true] at h
  unfold Xs z1
  rw [vV h.1,yv (f:=wH) (g:=zM) (fun a ha=>vV (h.2.1 a ha)),yv (f:=zd6) (g:=jy) (fun a ha=>by
    have:=h.2.2 a ha
    simp only [Yy,Bool.and_eq_true] at this
    show wH a.status++wH a.left++wH a.got++wH a.bearer++qh a.paused=zM a.status++zM a.left++zM a.got++zM a.bearer++qh a.paused
    rw [vV this.1,vV this.2.1,vV this.2.2.1,vV this.2.2.2])]
theorem wI {n:Int} (h:xh n=true):j4 n=true:=by
  simp only [xh,j4,Bool.and_eq_true,decide_eq_true_eq] at h ⊢
  omega
def we (p:PosT):Option ByteArray:=bif Ql p&&decide ((Xs p).length≤1000000000) then some ⟨(Xs p).toArray⟩ else none
theorem QM (p:PosT):Le (we p) (qF p):=fun r h=>by
  unfold we at h
  cases hq:(Ql p&&decide ((Xs p).length≤1000000000)) with
  | false=>rw [hq] at h;cases h
  | true=>
    rw [hq] at h
    simp only [Bool.and_eq_true,decide_eq_true_eq] at hq
    have e:=zdD hq.1
    unfold qF
    rw [if_pos,←e]
    · exact h
    · have h1:=hq.1
      simp only [Ql,Bool.and_eq_true,List.all_eq_true] at h1
      simp only [okP,Bool.and_eq_true,decide_eq_true_eq,List.all_eq_true]
      refine ⟨⟨⟨wI h1.1,fun x hx=>wI (h1.2.1 x hx)⟩,fun m hm => ?_⟩,by rw [←e];exact hq.2⟩
      have:=h1.2.2 m hm
      simp only [Yy,Bool.and_eq_true] at this
      exact ⟨⟨⟨wI this.1,wI this.2.1⟩,wI this.2.2.1⟩,wI this.2.2.2⟩
noncomputable def Xt (p1:ContractT) (p2:Int) (p3:List Int) (p4:Nat) (p5:List Bool) (p6:Nat) (p7:List MarkT) (p8:Nat):Option ((List MarkT)):=
  (Option.bind (iterN (σ:=Bool×(List MarkT)) (ρ:=(List MarkT)) (fun s1=>(bif s1.1 then (Option.bind (forR (σ:=Bool×(List MarkT)) (ρ:=Unit) (p1.clauses.length:Int) (fun i2 s2=>(Option.bind (Option.bind (ze p1.clauses (i2:Int)) fun e1=>(Option.bind (eqN p4 p3.length) fun g1=>(Option.bind (eqN p6 p5.length) fun g2=>(Option.bind (eqN p8 s2.2.length) fun g3=>(Option.bind (wy p1 ({day:=p2,holders:=p3,used:=p5,marks:=s2.2}:StateT) (i2:Int)) fun r1=>(bif r1 then (Option.bind (bif (e1.kind == 4) then some (-1) else (Option.bind (zm p4 e1.role) fun k1=>(Option.bind (p3[k1]?) fun e2=>some e2))) fun (v1:Int)=>(Option.bind (zm p8 (i2:Int)) fun k2=>(Option.bind (s2.2[k2]?) fun e3=>some (true,(s2.2.set k2 ({status:=1,left:=e1.after,got:=0,bearer:=v1,paused:=false}:MarkT)))))) else some (s2.1,s2.2))))))) fun (v2:Bool×(List MarkT))=>some (.inl (v2.1,v2.2)))) (false,s1.2)) (Sum.elim (fun (s2:Bool×(List MarkT))=>some (.inl (s2.1,s2.2))) (fun _=>none))) else some (.inr s1.2))) 40 (true,p7)) (fun (y1:(List MarkT))=>some y1))
theorem Yz (p1:ContractT) (p2:Int) (p3:List Int) (p4:Nat) (p5:List Bool) (p6:Nat) (p7:List MarkT) (p8:Nat):Le (Xt p1 p2 p3 p4 p5 p6 p7 p8) (xG p1 p2 p3 p4 p5 p6 p7 p8):=by
  unfold Xt xG
  repeat' (first | with_reducible exact Le.refl _ | with_reducible refine Le.bind ?_ (fun _ => ?_) | with_reducible refine Le.cond _ ?_ ?_ | with_reducible refine Le.forR (fun _ _ => ?_) _ _ | with_reducible refine Le.iter (fun _ => ?_) _ _ | with_reducible refine Le.elim (fun _ => ?_) (fun _ => ?_) _)
noncomputable def X6 (c:ContractT):Option (StateT×Int):=
  (Option.bind (wx c) fun r1=>(bif (r1.1 == 0) then (Option.bind (q5 8 c.holders) fun e1=>(Option.bind (mkN 1 (c.acts.length:Int)) fun k1=>(Option.bind (mkN 40 (c.clauses.length:Int)) fun k2=>(Option.bind (forR (σ:=(List MarkT)) (ρ:=Unit) (c.clauses.length:Int) (fun i1 s1=>(Option.bind (Option.bind (ze c.clauses (i1:Int)) fun e2=>(Option.bind (zm k2 (i1:Int)) fun k3=>(Option.bind (s1[k3]?) fun e3=>(bif e2.waived then (Option.bind (zm k2 (i1:Int)) fun k4=>(Option.bind ((s1.set k3 ({status:=0,left:=0,got:=0,bearer:=(-1),paused:=false}:MarkT))[k4]?) fun e4=>some ((s1.set k3 ({status:=0,left:=0,got:=0,bearer:=(-1),paused:=false}:MarkT)).set k4 ({e4 with status:=5}:MarkT)))) else some (s1.set k3 ({status:=0,left:=0,got:=0,bearer:=(-1),paused:=false}:MarkT)))))) fun (v1:(List MarkT))=>some (.inl v1))) (List.replicate k2 ({status:=0,left:=0,got:=0,bearer:=0,paused:=false}:MarkT))) (Sum.elim (fun (s1:(List MarkT))=>(Option.bind (Xt c 0 e1 e1.length (List.replicate k1 false) k1 s1 k2) fun r2=>(Option.bind (eqN k1 (List.replicate k1 false).length) fun g1=>(Option.bind (eqN k2 r2.length) fun g2=>some (({day:=0,holders:=e1,used:=(List.replicate k1 false),marks:=r2}:StateT),0))))) (fun _=>none)))))) else some (({day:=0,holders:=[],used:=[],marks:=[]}:StateT),1)))
theorem zdE (c:ContractT):Le (X6 c) (QC c):=by
  unfold X6 QC
  repeat' (first | with_reducible exact Le.refl _ | with_reducible exact Yz _ _ _ _ _ _ _ _ | with_reducible refine Le.bind ?_ (fun _ => ?_) | with_reducible refine Le.cond _ ?_ ?_ | with_reducible refine Le.forR (fun _ _ => ?_) _ _ | with_reducible refine Le.iter (fun _ => ?_) _ _ | with_reducible refine Le.elim (fun _ => ?_) (fun _ => ?_) _)
noncomputable def wJ (l:List Int) (v:Int):Option (Int×Bool):=
  (Option.bind (Option.bind (iterN (σ:=Int×Int) (ρ:=Int) (fun s1=>(bif decide (s1.1 < s1.2) then (Option.bind (ZV .u64 .u64 (IntKind.u64.wrap (IntKind.i64.wrap (s1.1+s1.2))) 1) fun e1=>(Option.bind (ze l (IntKind.i64.wrap e1)) fun e2=>(Option.bind (kA e2 v) fun r1=>(bif r1 then some (.inl ((IntKind.i64.wrap ((IntKind.i64.wrap e1)+1)),s1.2)) else some (.inl (s1.1,(IntKind.i64.wrap e1))))))) else some (.inr s1.1))) 40 (0,(l.length:Int))) (fun (y1:Int)=>some y1)) fun (v1:Int)=>(Option.bind (bif decide (v1 < (l.length:Int)) then (Option.bind (ze l v1) fun e3=>(bif (e3 == v) then some true else (Option.bind (vR e3) fun r2=>(bif r2 then (Option.bind (vR v) fun r3=>some r3) else some false)))) else some false) fun v2=>some (v1,v2)))
theorem Xu (l:List Int) (v:Int):Le (wJ l v) (je l v):=by
  unfold wJ je
  repeat' (first | with_reducible exact Le.refl _ | with_reducible refine Le.bind ?_ (fun _ => ?_) | with_reducible refine Le.cond _ ?_ ?_ | with_reducible refine Le.forR (fun _ _ => ?_) _ _ | with_reducible refine Le.iter (fun _ => ?_) _ _ | with_reducible refine Le.elim (fun _ => ?_) (fun _ => ?_) _)
noncomputable def zaS (p1:ContractT) (p2:Int) (p3:List Int) (p4:Nat) (p5:List Bool) (p6:Nat) (p7:List MarkT) (p8:Nat):Option ((List MarkT)):=
  (Option.bind (wJ p1.off p2) fun r1=>(Option.bind (Option.bind (jM p1 p2 p3 p4 p5 p6 p7 p8) fun r2=>(Option.bind (forR (σ:=(List MarkT)) (ρ:=(List MarkT)) (p8:Int) (fun i1 s1=>(Option.bind (Option.bind (zm p8 (i1:Int)) fun k1=>(Option.bind (s1[k1]?) fun e1=>(Option.bind (jc e1) fun r3=>(bif r3 then (Option.bind (Option.bind (ze p1.clauses (i1:Int)) fun e2=>(Option.bind (Option.bind (zm p8 (i1:Int)) fun k2=>(Option.bind (s1[k2]?) fun e3=>(bif e3.paused then some true else (bif e2.business then some r1.2 else some false)))) fun v1=>(bif v1 then some s1 else (Option.bind (zm p8 (i1:Int)) fun k3=>(Option.bind (s1[k3]?) fun e4=>(Option.bind (zm p8 (i1:Int)) fun k4=>(Option.bind ((s1.set k3 ({e4 with left:=(IntKind.i64.wrap (e4.left - 1))}:MarkT))[k4]?) fun e5=>(bif (e5.left == 0) then (Option.bind (bif (e2.kind == (0:Int)) then none else (bif (e2.kind == (1:Int)) then (Option.bind (J5 (i1:Int) p1 p2 p3 p4 p5 p6 (s1.set k3 ({e4 with left:=(IntKind.i64.wrap (e4.left - 1))}:MarkT)) p8) fun r7=>some r7) else (bif (e2.kind == (2:Int)) then (Option.bind (xH (i1:Int) p1 p2 p3 p4 p5 p6 (s1.set k3 ({e4 with left:=(IntKind.i64.wrap (e4.left - 1))}:MarkT)) p8) fun r6=>some r6) else (bif (e2.kind == (3:Int)) then (Option.bind (yL (i1:Int) p1 p2 p3 p4 p5 p6 (s1.set k3 ({e4 with left:=(IntKind.i64.wrap (e4.left - 1))}:MarkT)) p8) fun r5=>some r5) else (bif (e2.kind == (4:Int)) then (Option.bind (yL (i1:Int) p1 p2 p3 p4 p5 p6 (s1.set k3 ({e4 with left:=(IntKind.i64.wrap (e4.left - 1))}:MarkT)) p8) fun r4=>some r4) else none))))) fun v2=>some v2) else some (s1.set k3 ({e4 with left:=(IntKind.i64.wrap (e4.left - 1))}:MarkT)))))))))) fun (v3:(List MarkT))=>some ((!true),v3)) else some (false,s1))))) fun (v4:Bool×(List MarkT))=>(bif v4.1 then some (.inr v4.2) else some (.inl v4.2)))) p7) (Sum.elim (fun (s1:(List MarkT))=>some s1) (fun (y1:(List MarkT))=>some y1)))) fun (v5:(List MarkT))=>(Option.bind (Xt p1 (IntKind.i64.wrap (p2+1)) p3 p4 p5 p6 v5 p8) fun r8=>some r8)))
theorem zgq (p1:ContractT) (p2:Int) (p3:List Int) (p4:Nat) (p5:List Bool) (p6:Nat) (p7:List MarkT) (p8:Nat):Le (zaS p1 p2 p3 p4 p5 p6 p7 p8) (d_70a p1 p2 p3 p4 p5 p6 p7 p8):=by
  unfold zaS d_70a
  repeat' (first | with_reducible exact Le.refl _ | with_reducible exact Xu _ _ | with_reducible exact Yz _ _ _ _ _ _ _ _ | with_reducible refine Le.bind ?_ (fun _ => ?_) | with_reducible refine Le.cond _ ?_ ?_ | with_reducible refine Le.forR (fun _ _ => ?_) _ _ | with_reducible refine Le.iter (fun _ => ?_) _ _ | with_reducible refine Le.elim (fun _ => ?_) (fun _ => ?_) _)
noncomputable def zaT (p1:Int) (p2:ContractT) (p3:Int) (p4:List Int) (p5:Nat) (p6:List Bool) (p7:Nat) (p8:List MarkT) (p9:Nat):Option ((List Int)×(List Bool)×(List MarkT)):=
  (Option.bind (ze p2.acts p1) fun e1=>(Option.bind (bif (e1.kind == 1) then some false else (Option.bind (zm p7 p1) fun k1=>(Option.bind (p6[k1]?) fun e2=>some e2))) fun v1=>(bif v1 then some (p4,p6,p8) else (Option.bind (Option.bind (jM p2 p3 p4 p5 p6 p7 p8 p9) fun r1=>(Option.bind (forR (σ:=(List MarkT)) (ρ:=(List MarkT)) (p9:Int) (fun i1 s1=>(Option.bind (Option.bind (zm p9 (i1:Int)) fun k2=>(Option.bind (s1[k2]?) fun e3=>(Option.bind (jc e3) fun r2=>(bif r2 then (Option.bind (Option.bind (ze p2.clauses (i1:Int)) fun e4=>(bif (p1 == e4.pause) then (Option.bind (zm p9 (i1:Int)) fun k3=>(Option.bind (s1[k3]?) fun e5=>some (s1.set k3 ({e5 with paused:=true}:MarkT)))) else (Option.bind (ze p2.clauses (i1:Int)) fun e6=>(bif (p1 == e6.resume) then (Option.bind (zm p9 (i1:Int)) fun k4=>(Option.bind (s1[k4]?) fun e7=>some (s1.set k4 ({e7 with paused:=false}:MarkT)))) else some s1)))) fun (v2:(List MarkT))=>some ((!true),v2)) else some (false,s1))))) fun (v3:Bool×(List MarkT))=>(bif v3.1 then some (.inr v3.2) else some (.inl v3.2)))) p8) (Sum.elim (fun (s1:(List MarkT))=>some s1) (fun (y1:(List MarkT))=>some y1)))) fun (v4:(List MarkT))=>(Option.bind (eqN p5 p4.length) fun g1=>(Option.bind (eqN p7 p6.length) fun g2=>(Option.bind (eqN p9 v4.length) fun g3=>(Option.bind (kB p2 ({day:=p3,holders:=p4,used:=p6,marks:=v4}:StateT) p1) fun r3=>(Option.bind (Option.bind (jM p2 p3 p4 p5 p6 p7 v4 p9) fun r4=>(Option.bind (forR (σ:=(List MarkT)) (ρ:=(List MarkT)) (p9:Int) (fun i2 s2=>(Option.bind (Option.bind (zm p9 (i2:Int)) fun k5=>(Option.bind (s2[k5]?) fun e8=>(Option.bind (jc e8) fun r5=>(bif r5 then (Option.bind (Option.bind (ze p2.clauses (i2:Int)) fun e9=>(Option.bind (bif (e9.act == p1) then (bif (e9.kind == 4) then some true else (Option.bind (zm p9 (i2:Int)) fun k6=>(Option.bind (s2[k6]?) fun e10=>some (e10.bearer == r3)))) else some false) fun v5=>(bif v5 then (Option.bind (bif (e9.kind == (0:Int)) then none else (bif (e9.kind == (1:Int)) then (Option.bind (J7 (i2:Int) p2 p3 p4 p5 p6 p7 s2 p9) fun r9=>some r9) else (bif (e9.kind == (2:Int)) then (Option.bind (J6 (i2:Int) p2 p3 p4 p5 p6 p7 s2 p9) fun r8=>some r8) else (bif (e9.kind == (3:Int)) then (Option.bind (xH (i2:Int) p2 p3 p4 p5 p6 p7 s2 p9) fun r7=>some r7) else (bif (e9.kind == (4:Int)) then (Option.bind (xH (i2:Int) p2 p3 p4 p5 p6 p7 s2 p9) fun r6=>some r6) else none))))) fun v6=>some v6) else some s2))) fun (v7:(List MarkT))=>some ((!true),v7)) else some (false,s2))))) fun (v8:Bool×(List MarkT))=>(bif v8.1 then some (.inr v8.2) else some (.inl v8.2)))) v4) (Sum.elim (fun (s2:(List MarkT))=>some s2) (fun (y2:(List MarkT))=>some y2)))) fun (v9:(List MarkT))=>(Option.bind (bif (e1.kind == 1) then some (p4,p6,v9) else (Option.bind (J8 p1 p2 p3 p4 p5 p6 p7 v9 p9) fun r10=>some (r10.1,r10.2.1,r10.2.2))) fun (v10:(List Int)×(List Bool)×(List MarkT))=>(Option.bind (Xt p2 p3 v10.1 p5 v10.2.1 p7 v10.2.2 p9) fun r11=>some (v10.1,v10.2.1,r11))))))))))))
theorem zgr (p1:Int) (p2:ContractT) (p3:Int) (p4:List Int) (p5:Nat) (p6:List Bool) (p7:Nat) (p8:List MarkT) (p9:Nat):Le (zaT p1 p2 p3 p4 p5 p6 p7 p8 p9) (Zm p1 p2 p3 p4 p5 p6 p7 p8 p9):=by
  unfold zaT Zm
  repeat' (first | with_reducible exact Le.refl _ | with_reducible exact Yz _ _ _ _ _ _ _ _ | with_reducible refine Le.bind ?_ (fun _ => ?_) | with_reducible refine Le.cond _ ?_ ?_ | with_reducible refine Le.forR (fun _ _ => ?_) _ _ | with_reducible refine Le.iter (fun _ => ?_) _ _ | with_reducible refine Le.elim (fun _ => ?_) (fun _ => ?_) _)
noncomputable def yw (c:ContractT) (s:StateT) (step:Int):Option (StateT×Int):=
  (Option.bind (Option.bind (qK c s) fun r1=>(bif r1 then (bif decide (step < (-1)) then some true else some (decide ((c.acts.length:Int)≤step))) else some true)) fun v1=>(bif v1 then some (({day:=0,holders:=[],used:=[],marks:=[]}:StateT),1) else (bif (s.day == c.days) then some (({day:=0,holders:=[],used:=[],marks:=[]}:StateT),13) else (Option.bind (mkN 8 (s.holders.length:Int)) fun k1=>(Option.bind (mkN 1 (s.used.length:Int)) fun k2=>(Option.bind (mkN 40 (s.marks.length:Int)) fun k3=>(Option.bind (j1 (α:=Int) k1 (List.replicate k1 0) s.holders) fun e1=>(Option.bind (j1 (α:=Bool) k2 (List.replicate k2 false) s.used) fun e2=>(Option.bind (j1 (α:=MarkT) k3 (List.replicate k3 ({status:=0,left:=0,got:=0,bearer:=0,paused:=false}:MarkT)) s.marks) fun e3=>(Option.bind (bif (step == (-1)) then (Option.bind (zaS c s.day e1 k1 e2 k2 e3 k3) fun r2=>some (e1,e2,r2,(IntKind.i64.wrap (s.day+1)))) else (Option.bind (zaT step c s.day e1 k1 e2 k2 e3 k3) fun r3=>some (r3.1,r3.2.1,r3.2.2,s.day))) fun (v2:(List Int)×(List Bool)×(List MarkT)×Int)=>(Option.bind (eqN k1 v2.1.length) fun g1=>(Option.bind (eqN k2 v2.2.1.length) fun g2=>(Option.bind (eqN k3 v2.2.2.1.length) fun g3=>some (({day:=v2.2.2.2,holders:=v2.1,used:=v2.2.1,marks:=v2.2.2.1}:StateT),0))))))))))))))
theorem X7 (c:ContractT) (s:StateT) (step:Int):Le (yw c s step) (d_Step c s step):=by
  unfold yw d_Step
  repeat' (first | with_reducible exact Le.refl _ | with_reducible exact zgq _ _ _ _ _ _ _ _ | with_reducible exact zgr _ _ _ _ _ _ _ _ _ | with_reducible refine Le.bind ?_ (fun _ => ?_) | with_reducible refine Le.cond _ ?_ ?_ | with_reducible refine Le.forR (fun _ _ => ?_) _ _ | with_reducible refine Le.iter (fun _ => ?_) _ _ | with_reducible refine Le.elim (fun _ => ?_) (fun _ => ?_) _)
noncomputable def Xv (c:ContractT) (party:Int) (p:PosT):Option (ArenaT×Int):=
  (Option.bind (jp c party p) fun r1=>(bif r1 then (Option.bind (ju p.state) fun r2=>(Option.bind (we p) fun r3=>(Option.bind (α:=((List PosT)×(List (List MoveT))) ⊕ Unit) (Option.bind (iterN (σ:=Int×(List PosT)×(List (List MoveT))×(List (ByteArray×Int))) (ρ:=((List PosT)×(List (List MoveT))) ⊕ Unit) (fun s1=>(bif decide (s1.1 < (s1.2.1.length:Int)) then (Option.bind (α:=((List PosT)×(List (ByteArray×Int))×(List MoveT)) ⊕ Unit) (Option.bind (ze s1.2.1 s1.1) fun e1=>(Option.bind (Vg c party e1) fun r4=>(Option.bind (α:=((List PosT)×(List (ByteArray×Int))×(List MoveT)) ⊕ (Unit ⊕ ((List PosT)×(List (ByteArray×Int))×(List MoveT)))) (bif e1.own then (Option.bind (ju e1.state) fun r5=>(Option.bind (we ({state:=r5,own:=false}:PosT)) fun r6=>(Option.bind (α:=(Int×(List PosT)×(List (ByteArray×Int))) ⊕ Unit) (bif ((zp r6 s1.2.2.2).isSome) then some (.inl (((zp r6 s1.2.2.2).getD 0),s1.2.1,s1.2.2.2)) else (bif ((s1.2.1.length:Int) == 1500) then some (.inr ()) else (Option.bind (zS (α:=PosT) 88 s1.2.1 [({state:=r5,own:=false}:PosT)]) fun e2=>some (.inl ((s1.2.1.length:Int),e2,(z8 r6 (s1.2.1.length:Int) s1.2.2.2)))))) (Sum.elim (fun (v1:Int×(List PosT)×(List (ByteArray×Int)))=>(Option.bind (zS (α:=MoveT) 16 [] [({step:=(-2),to:=v1.1}:MoveT)]) fun e3=>(bif decide (c.days≤e1.state.day) then some (.inr (.inr (v1.2.1,v1.2.2,e3))) else some (.inl (v1.2.1,v1.2.2,e3))))) (fun (y1:Unit)=>some (.inr (.inl ()))))))) else (bif decide (c.days≤e1.state.day) then some (.inr (.inr (s1.2.1,s1.2.2.2,[]))) else some (.inl (s1.2.1,s1.2.2.2,[])))) (Sum.elim (fun (v2:(List PosT)×(List (ByteArray×Int))×(List MoveT))=>(Option.bind (α:=((List PosT)×(List (ByteArray×Int))×(List MoveT)) ⊕ Unit) (bif e1.own then some (.inl (v2.1,v2.2.1,v2.2.2)) else (Option.bind (yw c e1.state (-1)) fun r7=>(Option.bind (we ({state:=r7.1,own:=true}:PosT)) fun r8=>(Option.bind (α:=(Int×(List PosT)×(List (ByteArray×Int))) ⊕ Unit) (bif ((zp r8 v2.2.1).isSome) then some (.inl (((zp r8 v2.2.1).getD 0),v2.1,v2.2.1)) else (bif ((v2.1.length:Int) == 1500) then some (.inr ()) else (Option.bind (zS (α:=PosT) 88 v2.1 [({state:=r7.1,own:=true}:PosT)]) fun e4=>some (.inl ((v2.1.length:Int),e4,(z8 r8 (v2.1.length:Int) v2.2.1)))))) (Sum.elim (fun (v3:Int×(List PosT)×(List (ByteArray×Int)))=>(Option.bind (zS (α:=MoveT) 16 v2.2.2 [({step:=(-1),to:=v3.1}:MoveT)]) fun e5=>some (.inl (v3.2.1,v3.2.2,e5)))) (fun (y4:Unit)=>some (.inr ()))))))) (Sum.elim (fun (v4:(List PosT)×(List (ByteArray×Int))×(List MoveT))=>(Option.bind (forR (σ:=(List PosT)×(List (ByteArray×Int))×(List MoveT)) (ρ:=(List PosT)×(List (ByteArray×Int))×(List MoveT)) (c.acts.length:Int) (fun i2 s2=>(Option.bind (α:=((List PosT)×(List (ByteArray×Int))×(List MoveT)) ⊕ Unit) (Option.bind (ze c.acts (i2:Int)) fun e6=>(Option.bind (bif (e6.role == (-1)) then some (-1) else (Option.bind (ze e1.state.holders e6.role) fun e7=>some e7)) fun (v5:Int)=>(bif ((v5 == party) == e1.own) then (Option.bind (yw c e1.state (i2:Int)) fun r9=>(Option.bind (jD r9.1 e1.state) fun r10=>(bif r10 then some (.inl (s2.1,s2.2.1,s2.2.2)) else (Option.bind (we ({state:=r9.1,own:=true}:PosT)) fun r11=>(Option.bind (α:=(Int×(List PosT)×(List (ByteArray×Int))) ⊕ Unit) (bif ((zp r11 s2.2.1).isSome) then some (.inl (((zp r11 s2.2.1).getD 0),s2.1,s2.2.1)) else (bif ((s2.1.length:Int) == 1500) then some (.inr ()) else (Option.bind (zS (α:=PosT) 88 s2.1 [({state:=r9.1,own:=true}:PosT)]) fun e8=>some (.inl ((s2.1.length:Int),e8,(z8 r11 (s2.1.length:Int) s2.2.1)))))) (Sum.elim (fun (v6:Int×(List PosT)×(List (ByteArray×Int)))=>(Option.bind (zS (α:=MoveT) 16 s2.2.2 [({step:=(i2:Int),to:=v6.1}:MoveT)]) fun e9=>some (.inl (v6.2.1,v6.2.2,e9)))) (fun (y6:Unit)=>some (.inr ())))))))) else some (.inl (s2.1,s2.2.1,s2.2.2))))) (Sum.elim (fun (v7:(List PosT)×(List (ByteArray×Int))×(List MoveT))=>some (.inl (v7.1,v7.2.1,v7.2.2))) (fun (y7:Unit)=>some (.inr (s2.1,s2.2.1,s2.2.2)))))) (v4.1,v4.2.1,v4.2.2)) (Sum.elim (fun (s2:(List PosT)×(List (ByteArray×Int))×(List MoveT))=>some (.inl (s2.1,s2.2.1,s2.2.2))) (fun (y8:(List PosT)×(List (ByteArray×Int))×(List MoveT))=>some (.inr ()))))) (fun (y5:Unit)=>some (.inr ()))))) (Sum.elim (fun (y2:Unit)=>some (.inr ())) (fun (y3:(List PosT)×(List (ByteArray×Int))×(List MoveT))=>some (.inl (y3.1,y3.2.1,y3.2.2)))))))) (Sum.elim (fun (v8:(List PosT)×(List (ByteArray×Int))×(List MoveT))=>(Option.bind (zS (α:=List MoveT) 24 s1.2.2.1 [v8.2.2]) fun e10=>some (.inl ((IntKind.i64.wrap (s1.1+1)),v8.1,e10,v8.2.1)))) (fun (y9:Unit)=>some (.inr (.inr ()))))) else some (.inr (.inl (s1.2.1,s1.2.2.1))))) 40 (0,[({state:=r2,own:=p.own}:PosT)],[],(z8 r3 0 []))) (Sum.elim (fun (y10:(List PosT)×(List (List MoveT)))=>some (.inl (y10.1,y10.2))) (fun (y11:Unit)=>some (.inr ())))) (Sum.elim (fun (v9:(List PosT)×(List (List MoveT)))=>some (({party:=party,positions:=v9.1,moves:=v9.2}:ArenaT),0)) (fun (y12:Unit)=>some (({party:=0,positions:=[],moves:=[]}:ArenaT),3)))))) else some (({party:=0,positions:=[],moves:=[]}:ArenaT),1)))
theorem KG (c:ContractT) (party:Int) (p:PosT):Le (Xv c party p) (Z5 c party p):=by
  unfold Xv Z5
  repeat' (first | with_reducible exact Le.refl _ | with_reducible exact QM _ | with_reducible exact X7 _ _ _ | with_reducible refine Le.bind ?_ (fun _ => ?_) | with_reducible refine Le.cond _ ?_ ?_ | with_reducible refine Le.forR (fun _ _ => ?_) _ _ | with_reducible refine Le.iter (fun _ => ?_) _ _ | with_reducible refine Le.elim (fun _ => ?_) (fun _ => ?_) _)
noncomputable def QN (c:ContractT) (a:ArenaT):Option (List Int):=
  (Option.bind (yj c a) fun r1=>(bif r1 then (Option.bind (mkN 8 (a.positions.length:Int)) fun k1=>(Option.bind (mkN 8 (a.positions.length:Int)) fun k2=>(Option.bind (mkN 24 (a.positions.length:Int)) fun k3=>(Option.bind (forR (σ:=(List Int)×(List Int)×(List (List Int))×(List Int)) (ρ:=Unit) (a.positions.length:Int) (fun i1 s1=>(Option.bind (Option.bind (ze a.positions (i1:Int)) fun e1=>(Option.bind (ze a.moves (i1:Int)) fun e2=>(Option.bind (zm k1 (i1:Int)) fun k4=>(Option.bind (s1.1[k4]?) fun e3=>(Option.bind (zm k2 (i1:Int)) fun k5=>(Option.bind (s1.2.1[k5]?) fun e4=>(Option.bind (ze a.moves (i1:Int)) fun e5=>(Option.bind (forR (σ:=(List (List Int))) (ρ:=Unit) (e5.length:Int) (fun i2 s2=>(Option.bind (ze e5 (i2:Int)) fun e6=>(Option.bind (xS s2 k3 e6.to (i1:Int)) fun v1=>some (.inl v1)))) s1.2.2.1) (Sum.elim (fun (s2:(List (List Int)))=>(Option.bind (Ym c e1.state a.party) fun r2=>(bif r2 then (Option.bind (zm k1 (i1:Int)) fun k6=>(Option.bind ((s1.1.set k4 (-1))[k6]?) fun e7=>(Option.bind (kC (i1:Int) s1.2.2.2 0) fun r3=>some (((s1.1.set k4 (-1)).set k6 0),(s1.2.1.set k5 (e2.length:Int)),s2,r3)))) else some ((s1.1.set k4 (-1)),(s1.2.1.set k5 (e2.length:Int)),s2,s1.2.2.2)))) (fun _=>none)))))))))) fun (v2:(List Int)×(List Int)×(List (List Int))×(List Int))=>some (.inl (v2.1,v2.2.1,v2.2.2.1,v2.2.2.2)))) ((List.replicate k1 0),(List.replicate k2 0),(List.replicate k3 []),[])) (Sum.elim (fun (s1:(List Int)×(List Int)×(List (List Int))×(List Int))=>(Option.bind (forR (σ:=(List Int)×(List Int)) (ρ:=Unit) (a.positions.length:Int) (fun i3 s3=>(Option.bind (Option.bind (ze a.positions (i3:Int)) fun e8=>(Option.bind (bif e8.own then (Option.bind (zm k2 (i3:Int)) fun k7=>(Option.bind (s1.2.1[k7]?) fun e9=>(bif (e9 == 0) then (Option.bind (zm k1 (i3:Int)) fun k8=>(Option.bind (s3.1[k8]?) fun e10=>some (e10 == (-1)))) else some false))) else some false) fun v3=>(bif v3 then (Option.bind (kD (i3:Int) 1 s3.1 k1 s3.2 0) fun r4=>some (r4.2,r4.1)) else some (s3.1,s3.2)))) fun (v4:(List Int)×(List Int))=>some (.inl (v4.1,v4.2)))) (s1.1,s1.2.2.2)) (Sum.elim (fun (s3:(List Int)×(List Int))=>(Option.bind (Option.bind (yl s3.2 0) fun r5=>(Option.bind (iterN (σ:=Int×Bool×(List Int)×(List Int)×(List Int)×Int) (ρ:=(List Int)) (fun s4=>(bif s4.2.1 then (Option.bind (zm k3 s4.1) fun k9=>(Option.bind (s1.2.2.1[k9]?) fun e11=>(Option.bind (forR (σ:=(List Int)×(List Int)×(List Int)) (ρ:=Unit) (e11.length:Int) (fun i5 s5=>(Option.bind (ze e11 (i5:Int)) fun e12=>(Option.bind (J9 e12 s4.1 s5.2.1 k2 s5.1 k1 a s5.2.2 s4.2.2.2.2.2) fun r6=>some (.inl (r6.2.1,r6.1,r6.2.2))))) (s4.2.2.1,s4.2.2.2.1,s4.2.2.2.2.1)) (Sum.elim (fun (s5:(List Int)×(List Int)×(List Int))=>(Option.bind (yl s5.2.2 s4.2.2.2.2.2) fun r7=>some (.inl (r7.1,r7.2.1,s5.1,s5.2.1,s5.2.2,r7.2.2)))) (fun _=>none))))) else some (.inr s4.2.2.1))) 40 (r5.1,r5.2.1,s3.1,s1.2.1,s3.2,r5.2.2)) (fun (y1:(List Int))=>some y1))) fun (v5:(List Int))=>(Option.bind (eqN k1 v5.length) fun g1=>some v5))) (fun _=>none)))) (fun _=>none)))))) else some []))
theorem YA (c:ContractT) (a:ArenaT):Le (QN c a) (kE c a):=by
  unfold QN kE
  repeat' (first | with_reducible exact Le.refl _ | with_reducible refine Le.bind ?_ (fun _ => ?_) | with_reducible refine Le.cond _ ?_ ?_ | with_reducible refine Le.forR (fun _ _ => ?_) _ _ | with_reducible refine Le.iter (fun _ => ?_) _ _ | with_reducible refine Le.elim (fun _ => ?_) (fun _ => ?_) _)
noncomputable def YB (c:ContractT) (a:ArenaT):Option (List Bool):=
  (Option.bind (QN c a) fun r1=>(Option.bind (mkN 1 (r1.length:Int)) fun k1=>(Option.bind (forR (σ:=(List Bool)) (ρ:=Unit) (r1.length:Int) (fun i1 s1=>(Option.bind (ze r1 (i1:Int)) fun e1=>(Option.bind (zm k1 (i1:Int)) fun k2=>(Option.bind (s1[k2]?) fun e2=>some (.inl (s1.set k2 (e1 == (-1)))))))) (List.replicate k1 false)) (Sum.elim (fun (s1:(List Bool))=>(Option.bind (eqN k1 s1.length) fun g1=>some s1)) (fun _=>none)))))
theorem zeZ (c:ContractT) (a:ArenaT):Le (YB c a) (Xa c a):=by
  unfold YB Xa
  repeat' (first | with_reducible exact Le.refl _ | with_reducible exact YA _ _ | with_reducible refine Le.bind ?_ (fun _ => ?_) | with_reducible refine Le.cond _ ?_ ?_ | with_reducible refine Le.forR (fun _ _ => ?_) _ _ | with_reducible refine Le.iter (fun _ => ?_) _ _ | with_reducible refine Le.elim (fun _ => ?_) (fun _ => ?_) _)
end Go.Proofs.YtmoedieenlaegaaGreatDoor
