/-
  What an act does.
  'system.Step': what it returns.
  'arena.Moves' and 'arena.After': what they return.
  'arena.After'; 'Few', 'Tame', 'Doer'.
  The text of a position tells it from every other position of the same contract.
  A search through positions, breadth first: what is known of it.
  'arena.From': what it returns.
  'system.Start', 'arena.Build', 'Index'.
  What an arena holds: closed under moves, and all that can be reached.
  region.Ranks: what it returns for an arena is the number of moves in which a breach can be forced.
  region.Ranks: the queue.
  region.Ranks: all of it.
  A clause that has ended stays as it is; a breach stays a breach.
  RegionBreach: a breach is never left.
  What can be forced from a position, told without an arena.
  region.Safe and strategy's functions, told by positions.
  What a shield and a doom prove, told without the program.
  StrategyKeeps: the advice keeps the party safe.
  Ranks of positions; the shield and the doom that an arena gives.
  A table that keeps the least rank of the rows with a position.
  The functions Moves and After.
-/
import Derived.Test.YtmoedieenlaegaaGreatDoorWD10
import Derived.Test.YtmoedieenlaegaaGreatDoorWD06
namespace Go.Proofs.YtmoedieenlaegaaGreatDoor
open Go.RowKit
set_option linter.unusedSimpArgs false
set_option linter.unusedVariables false
set_option maxRecDepth 100000
def Zm (act:Int) (k:ClauseT) (m:MarkT):MarkT:=
  bif jG m then (bif act == k.pause then {m with paused:=true} else bif act == k.resume then {m with paused:=false} else m) else m
def zbP (k:ClauseT) (m:MarkT):MarkT:=bif m.got+1 == k.need then kO 3 {m with got:=m.got+1} else {m with got:=m.got+1}
def zeI (k:ClauseT) (m:MarkT):MarkT:=bif k.kind == 1 then zbP k m else bif k.kind == 2 then (bif m.paused then m else kO 4 m) else kO 3 m
def WO (act by_:Int) (k:ClauseT) (m:MarkT):MarkT:=bif jG m then (bif k.act == act&&(k.kind == 4||m.bearer == by_) then zeI k m else m) else m
def Jl (a:ActT) (k:ClauseT) (m:MarkT):MarkT:=bif jG m then (bif !(k.kind == 4)&&k.role == a.give then {m with bearer:=a.to} else m) else m
def xh (hs:List Int) (a:ActT):Int:=bif a.role == -1 then -1 else hs[a.role.toNat]?.getD 0
theorem zht (c:ContractT) (s:StateT) (i:Nat) (a:ActT) (ha:c.acts[i]?=some a) (h:a.role = -1∨(0≤a.role∧a.role < s.holders.length)):Zc c s i=some (xh s.holders a):=by
  unfold Zc xh
  simp only [zx ha,Option.bind_some]
  cases hr:(a.role == -1) with
  | true=>rfl
  | false=>
    have h1:=beq_eq_false_iff_ne.1 hr
    obtain ⟨h2,h3⟩:=jj (l:=s.holders) (n:=a.role) (by omega) (by omega)
    simp only [cond_false,h3,Option.bind_some,List.getElem?_eq_getElem h2,Option.getD_some]
theorem zdz {c:ContractT} {i:Nat} {k:ClauseT} {m:MarkT} {act:Int} (ha:0≤act) (kv:KV c i k) (h:jf c.parties k m=true):jf c.parties k (Zm act k m)=true:=by
  unfold Zm
  cases hr:jG m with
  | false=>exact h
  | true=>
    obtain ⟨rv,hb,hs⟩:=wk kv h hr
    obtain ⟨b1,b2,b3,b4,b5⟩:=q8.1 hb
    simp only [cond_true]
    cases h1:(act == k.pause) with
    | true=>exact yz hs (q8.2 ⟨b1,b2,fun _=>by have:=beq_iff_eq.1 h1;omega,b4,b5⟩)
    | false=>
      cases h2:(act == k.resume) with
      | true=>exact yz hs (q8.2 ⟨b1,b2,fun h=>absurd (show false=true from h) (by decide),b4,b5⟩)
      | false=>exact h
theorem zf5 {c:ContractT} {i:Nat} {k:ClauseT} {m:MarkT} {act by_:Int} (hp:0 < c.parties) (kv:KV c i k) (h:jf c.parties k m=true):jf c.parties k (WO act by_ k m)=true:=by
  unfold WO
  cases hr:jG m with
  | false=>exact h
  | true=>
    obtain ⟨rv,hb,hs⟩:=wk kv h hr
    obtain ⟨b1,b2,b3,b4,b5⟩:=q8.1 hb
    simp only [cond_true]
    cases h1:(k.act == act&&(k.kind == 4||m.bearer == by_)) with
    | false=>exact h
    | true=>
      simp only [cond_true,zeI]
      have hn:=kv.need
      cases h2:(k.kind == 1) with
      | true=>
        have hk:=beq_iff_eq.1 h2
        simp only [cond_true,zbP]
        cases h3:(m.got+1 == k.need) with
        | true=>
          have h3':=beq_iff_eq.1 h3
          refine ve.2 (.inr (.inr (.inr ⟨.inl rfl,?_⟩)))
          have e1:decide (0≤m.got+1)=true:=decide_eq_true (by omega)
          have e2:decide (m.got+1≤9)=true:=decide_eq_true (by omega)
          have e3:decide (-1≤m.bearer)=true:=decide_eq_true (by omega)
          have e4:decide (m.bearer < c.parties)=true:=decide_eq_true (by omega)
          show ((0:Int) == 0&&(decide (0≤m.got+1)&&(decide (m.got+1≤9)&&(decide (-1≤m.bearer)&&(decide (m.bearer < c.parties) && !false)))))=true
          rw [e1,e2,e3,e4];rfl
        | false=>
          have h3':=beq_eq_false_iff_ne.1 h3
          refine yz hs (q8.2 ⟨b1,b2,b3,.inr ⟨hk,?_,?_⟩,b5⟩)
          · show 0≤m.got+1;omega
          · show m.got+1 < k.need;omega
      | false=>
        simp only [cond_false]
        cases h3:(k.kind == 2) with
        | true=>
          simp only [cond_true]
          cases m.paused with
          | true=>exact h
          | false=>exact Zl kv rv hp (by omega)
        | false=>exact Zl kv rv hp (by omega)
theorem zeJ {c:ContractT} {i:Nat} {k:ClauseT} {m:MarkT} {a:ActT} (kv:KV c i k) (ht:0≤a.to∧a.to < c.parties) (h:jf c.parties k m=true):jf c.parties k (Jl a k m)=true:=by
  unfold Jl
  cases hr:jG m with
  | false=>exact h
  | true=>
    obtain ⟨rv,hb,hs⟩:=wk kv h hr
    obtain ⟨b1,b2,b3,b4,b5⟩:=q8.1 hb
    simp only [cond_true]
    cases h1:(!(k.kind == 4)&&k.role == a.give) with
    | false=>exact h
    | true=>
      simp only [Bool.and_eq_true,Bool.not_eq_true',beq_eq_false_iff_ne] at h1
      exact yz hs (q8.2 ⟨b1,b2,b3,b4,.inr ⟨h1.1,ht.1,ht.2⟩⟩)
def ms1 (c:ContractT) (act:Int) (ms:List MarkT):List MarkT:=ms.mapIdx (atK c (Zm act))
def ms2 (c:ContractT) (act:Int) (a:ActT) (hs:List Int) (ms:List MarkT):List MarkT:=(ms1 c act ms).mapIdx (atK c (WO act (xh hs a)))
def ms3 (c:ContractT) (act:Int) (a:ActT) (hs:List Int) (ms:List MarkT):List MarkT:=bif a.kind == 3 then (ms2 c act a hs ms).mapIdx (atK c (Jl a)) else ms2 c act a hs ms
def hs3 (a:ActT) (hs:List Int):List Int:=bif a.kind == 1 then hs else hs.set a.give.toNat a.to
def us3 (i:Nat) (a:ActT) (us:List Bool):List Bool:=bif a.kind == 1 then us else us.set i true
theorem zdA {c:ContractT} {act:Int} {ms:List MarkT} (ho:c.off.length < 4611686018427387904) (hv:(qv c).1=0) (ha:0≤act) (hm:MOk c ms):MOk c (ms1 c act ms):=
  hm.mapIdx _ fun i k m hk h=>zdz ha (yq ho hv hk) h
theorem Kj {c:ContractT} {act:Int} {a:ActT} {hs:List Int} {ms:List MarkT} (ho:c.off.length < 4611686018427387904) (hv:(qv c).1=0) (ha:0≤act) (hm:MOk c ms):MOk c (ms2 c act a hs ms):=
  (zdA ho hv ha hm).mapIdx _ fun i k m hk h=>zf5 (by have:=(q7 ho hv).parties;omega) (yq ho hv hk) h
theorem zhu {c:ContractT} {act:Int} {a:ActT} {hs:List Int} {ms:List MarkT} (ho:c.off.length < 4611686018427387904) (hv:(qv c).1=0) (ha:0≤act) (av:AV2 c a) (hm:MOk c ms):MOk c (ms3 c act a hs ms):=by
  unfold ms3
  cases h3:(a.kind == 3) with
  | false=>exact Kj ho hv ha hm
  | true=>
    refine (Kj ho hv ha hm).mapIdx _ fun i k m hk h=>zeJ (yq ho hv hk) ?_ h
    have:=beq_iff_eq.1 h3
    have:=av.kind
    omega
theorem zhv (c:ContractT) (day:Int) (hs:List Int) (us:List Bool) (ms:List MarkT) (i:Nat) (a:ActT) (ho:c.off.length < 4611686018427387904) (hv:(qv c).1=0) (hh:hs.length=c.holders.length) (hu:us.length=c.acts.length)
    (ha:c.acts[i]?=some a) (hm:MOk c ms) :
    ZO i c day hs hs.length us us.length ms ms.length=(bif !(a.kind == 1)&&us[i]?.getD false then some (hs,us,ms) else
      (yb c day (hs3 a hs) (us3 i a us) (ms3 c i a hs ms)).bind fun r=>some (hs3 a hs,us3 i a us,r)):=by
  have sm:=q7 ho hv
  have hcl:=sm.clauses
  have hl:=hm.1
  have av:=Ye hv ha
  have hia:i < c.acts.length:=(List.getElem?_eq_some_iff.1 ha).1
  have hiu:i < us.length:=by omega
  unfold ZO
  have eU:(bif a.kind == 1 then some false else (Option.bind (zm us.length (i:Int)) fun k1=>(Option.bind (us[k1]?) fun e2=>some e2)))=some (!(a.kind == 1)&&us[i]?.getD false):=by
    simp only [zU hiu,Option.bind_some,List.getElem?_eq_getElem hiu,Option.getD_some]
    cases (a.kind == 1)<;>rfl
  simp only [zx ha,Option.bind_some]
  rw [eU]
  simp only [Option.bind_some]
  cases hearly:(!(a.kind == 1)&&us[i]?.getD false) with
  | true=>rfl
  | false=>
    simp only [cond_false,jR,Option.bind_some]
    rw [vF ms (atK c (Zm i)) (by omega) ?p1]
    case p1=>
      intro j m s h1 h2 h3
      have hj:j < ms.length:=(List.getElem?_eq_some_iff.1 h1).1
      have hk:=List.getElem?_eq_getElem (show j < c.clauses.length by omega)
      simp only [zU hj,Option.bind_some,h3,kC,atK,hk,Zm]
      generalize c.clauses[j]=k at hk
      cases hrn:jG m with
      | false=>simp only [cond_false,Option.bind_some,jx h3]
      | true=>
        simp only [cond_true,zx hk,Option.bind_some]
        cases ((i:Int) == k.pause) with
        | true=>simp only [cond_true,Option.bind_some,Bool.not_true,cond_false]
        | false=>
          simp only [cond_false]
          cases ((i:Int) == k.resume) with
          | true=>simp only [cond_true,Option.bind_some,Bool.not_true,cond_false]
          | false=>simp only [cond_false,Option.bind_some,Bool.not_true,jx h3]
    simp only [Option.bind_some,Sum.elim_inl]
    show Option.bind (eqN hs.length hs.length) _=_
    simp only [ZV,Option.bind_some,yc (show ms.length=(ms.mapIdx (atK c (Zm (i:Int)))).length by simp)]
    rw [zht c _ i a ha (by have:=av.role;simp only;omega)]
    simp only [Option.bind_some]
    have m1ok:=zdA (act:=(i:Int)) ho hv (by omega) hm
    have hlen1:(ms.length:Int)=((ms1 c i ms).length:Int):=by simp [ms1]
    show Option.bind (Option.bind (forR (ms.length:Int) _ (ms1 c i ms)) _) _=_
    rw [hlen1]
    rw [vF (ms1 c i ms) (atK c (WO i (xh hs a))) (by simp [ms1];omega) ?p2]
    case p2=>
      intro j m s h1 h2 h3
      have hj1:j < (ms1 c i ms).length:=(List.getElem?_eq_some_iff.1 h1).1
      have hj:j < ms.length:=by simpa [ms1] using hj1
      have hk:=List.getElem?_eq_getElem (show j < c.clauses.length by omega)
      have kv:=yq ho hv hk
      have hmk:=m1ok.2 j _ _ hk h1
      simp only [zU hj,Option.bind_some,h3,kC,atK,hk,WO]
      generalize c.clauses[j]=k at hk kv hmk
      cases hrn:jG m with
      | false=>simp only [cond_false,Option.bind_some,jx h3]
      | true=>
        obtain ⟨rv,hb,hst⟩:=wk kv hmk hrn
        simp only [cond_true,zx hk,Option.bind_some]
        have eT:(bif k.act == (i:Int) then (bif k.kind == 4 then some true else some (m.bearer == xh hs a)) else some false)=some (k.act == (i:Int)&&(k.kind == 4||m.bearer == xh hs a)):=by
          cases (k.act == (i:Int))<;>cases (k.kind == 4)<;>rfl
        rw [eT]
        simp only [Option.bind_some]
        cases (k.act == (i:Int)&&(k.kind == 4||m.bearer == xh hs a)) with
        | false=>simp only [cond_false,Option.bind_some,Bool.not_true,jx h3]
        | true=>
          have hgot:=rv.got
          have hneed:=kv.need
          have hk0:(k.kind == 0)=false:=beq_eq_false_iff_ne.2 (by have:=kv.kind;omega)
          simp only [cond_true,hk0,cond_false,X1,X0,xV,zU hj,Option.bind_some,h3,vg h3,zx hk,zeI,zbP]
          rw [qI (show -9223372036854775808≤m.got+1 by omega) (by omega)]
          rw [Jk j 3 _ _ _ _ _ _ _ _ _ hj h3,Jk j 3 _ _ _ _ _ _ _ _ _ hj (vg h3),Jk j 4 _ _ _ _ _ _ _ _ _ hj h3]
          simp only [Option.bind_some,List.set_set]
          cases e1:(k.kind == 1) with
          | true=>cases (m.got+1 == k.need)<;>simp
          | false=>
            cases e2:(k.kind == 2) with
            | true=>cases m.paused<;>simp [jx h3]
            | false=>
              cases e3:(k.kind == 3) with
              | true=>simp
              | false=>
                have h4:(k.kind == 4)=true:=beq_iff_eq.2 (by have:=kv.kind;have:=beq_eq_false_iff_ne.1 e1;have:=beq_eq_false_iff_ne.1 e2;have:=beq_eq_false_iff_ne.1 e3;omega)
                simp [h4]
    simp only [Option.bind_some,Sum.elim_inl]
    show Option.bind (bif a.kind == 1 then some (hs,us,ms2 c i a hs ms) else _) _=_
    have m2ok:=Kj (act:=(i:Int)) (a:=a) (hs:=hs) ho hv (by omega) hm
    cases h1:(a.kind == 1) with
    | true=>
      have h3:(a.kind == 3)=false:=beq_eq_false_iff_ne.2 (by have:=beq_iff_eq.1 h1;omega)
      simp only [cond_true,Option.bind_some,hs3,us3,ms3,h1,h3,cond_false]
      unfold yb
      rw [show (ms2 c i a hs ms).length=ms.length by simp [ms2,ms1]]
    | false=>
      have hak:=av.kind.resolve_left (beq_eq_false_iff_ne.1 h1)
      have hg:a.give.toNat < hs.length:=by omega
      simp only [cond_false,X2,zx ha,Option.bind_some]
      rw [zay (show 0≤a.give by omega) (by omega),zU hiu]
      simp only [Option.bind_some,List.getElem?_eq_getElem hg,List.getElem?_eq_getElem hiu,jR,hs3,us3,ms3,h1,cond_false]
      cases h3:(a.kind == 3) with
      | false=>
        simp only [cond_false,Option.bind_some]
        unfold yb
        rw [show (ms2 c i a hs ms).length=ms.length by simp [ms2,ms1],List.length_set,List.length_set]
        rfl
      | true=>
        simp only [cond_true]
        have hlen2:(ms.length:Int)=((ms2 c i a hs ms).length:Int):=by simp [ms2,ms1]
        rw [hlen2,show List.mapIdx (atK c (WO (i:Int) (xh hs a))) (ms1 c i ms)=ms2 c i a hs ms from rfl]
        rw [vF (ms2 c i a hs ms) (atK c (Jl a)) (by simp [ms2,ms1];omega) ?p3]
        case p3=>
          intro j m s h1 h2 h3
          have hj1:j < (ms2 c i a hs ms).length:=(List.getElem?_eq_some_iff.1 h1).1
          have hj:j < ms.length:=by simpa [ms2,ms1] using hj1
          have hk:=List.getElem?_eq_getElem (show j < c.clauses.length by omega)
          simp only [zU hj,Option.bind_some,h3,kC,atK,hk,Jl]
          generalize c.clauses[j]=k at hk
          cases hrn:jG m with
          | false=>simp only [cond_false,Option.bind_some,jx h3]
          | true=>
            simp only [cond_true,zx hk,Option.bind_some]
            cases (k.kind == 4) with
            | true=>simp only [cond_true,Option.bind_some,Bool.not_true,Bool.false_and,cond_false,jx h3]
            | false=>
              simp only [cond_false,Option.bind_some,Bool.not_false,Bool.true_and]
              cases (k.role == a.give) with
              | true=>simp only [cond_true,Option.bind_some,Bool.not_true,cond_false]
              | false=>simp only [cond_false,Option.bind_some,Bool.not_true,jx h3]
        simp only [Option.bind_some,Sum.elim_inl]
        unfold yb
        rw [show ((ms2 c i a hs ms).mapIdx (atK c (Jl a))).length=ms.length by simp [ms2,ms1],List.length_set,List.length_set]
def noS:StateT:={day:=0,holders:=[],used:=[],marks:=[]}
def zhw (c:ContractT) (i:Nat) (a:ActT) (s r:StateT):Prop:=
  (a.kind≠1∧s.used[i]?=some true∧r=s)∨((a.kind=1∨s.used[i]?=some false)∧r.day=s.day∧r.holders=hs3 a s.holders∧r.used=us3 i a s.used∧StartP c (hs3 a s.holders) (ms3 c i a s.holders s.marks) r.marks)
def zfo (c:ContractT) (s r:StateT):Prop:=r.day=s.day+1∧r.holders=s.holders∧r.used=s.used∧StartP c s.holders (s.marks.mapIdx (atK c (yr (xr c.off s.day).isSome))) r.marks
theorem Kk {b n:Nat} (h:n < 1000) (hb:b≤1000):mkN b (n:Int)=some n:=by
  unfold mkN
  have:n*b≤1000*1000:=Nat.mul_le_mul (by omega) hb
  rw [if_pos ⟨by omega,by omega,by omega⟩];simp
theorem J4 {α:Type} {l d:List α} {k:Nat} (h:k=d.length) (h2:l.length=k):xd k d l=some l:=by unfold xd;rw [if_pos ⟨h,h2⟩]
theorem zf6 {α:Type} {l:List α} {i:Nat} {x y:α} (h:y∈l.set i x):y∈l∨y=x:=List.mem_or_eq_of_mem_set h
theorem zeK {c:ContractT} {s:StateT} {a:Int} (hc:c.Ok) (hv:VS c s) (h1 : -1≤a) (h2:a < c.acts.length) (hd:s.day < c.days) :
    Ret (d_Step c s a) (fun r=>r.2=0∧VS c r.1∧(a = -1→zfo c s r.1)∧(∀ (i:Nat) (x:ActT),a=(i:Int)→c.acts[i]?=some x→zhw c i x s r.1)):=by
  have ho:=hc.off.lt (by omega:0 < 8)
  have sm:=q7 ho hv.cv
  have s1:=sm.holders
  have s2:=sm.acts
  have s3:=sm.clauses
  have sd:=sm.days
  have hlh:=hv.lh
  have hlu:=hv.lu
  have hlm:=hv.lm
  have hday:=hv.day
  have hmo:MOk c s.marks:=⟨hlm,fun i k m hk hm=>hv.mrk i k m hk hm⟩
  unfold d_Step
  have e1:decide (a < -1)=false:=decide_eq_false (by omega)
  have e2:decide ((c.acts.length:Int)≤a)=false:=decide_eq_false (by omega)
  refine Ret.bindE (v:=false) (by rw [yW c s hc,QM hv,e1,e2];rfl) ?_
  refine Ret.ite (fun h=>by cases h) (fun _ => ?_)
  refine Ret.ite (fun h=>absurd (beq_iff_eq.1 h) (by omega)) (fun _ => ?_)
  refine Ret.bindE (Kk (show s.holders.length < 1000 by omega) (by omega)) ?_
  refine Ret.bindE (Kk (show s.used.length < 1000 by omega) (by omega)) ?_
  refine Ret.bindE (Kk (show s.marks.length < 1000 by omega) (by omega)) ?_
  refine Ret.bindE (J4 (by simp) rfl) ?_
  refine Ret.bindE (J4 (by simp) rfl) ?_
  refine Ret.bindE (J4 (by simp) rfl) ?_
  cases ht:(a == (-1:Int)) with
  | true=>
    have ha:=beq_iff_eq.1 ht
    simp only [cond_true]
    rw [zf4 c s.day s.holders s.used s.marks ho hv.cv hmo (by omega)]
    have hmo2:MOk c (s.marks.mapIdx (atK c (yr (xr c.off s.day).isSome))):=hmo.mapIdx _ fun i k m hk h=>zeH _ (yq ho hv.cv hk) (by have:=sm.parties;omega) h
    refine Ret.bind (P:=fun v:List Int×List Bool×List MarkT×Int=>v.1=s.holders∧v.2.1=s.used∧v.2.2.2=s.day+1∧StartP c s.holders (s.marks.mapIdx (atK c (yr (xr c.off s.day).isSome))) v.2.2.1)
      (Ret.bind (VA c (s.day+1) s.holders s.used _ ho hv.cv hlh hv.hold hmo2) fun r hr=>Ret.some ⟨rfl,rfl,qI (by omega) (by omega),hr⟩) ?_
    rintro ⟨v1,v2,v3,v4⟩ ⟨q1,q2,q3,q4⟩
    simp only at q1 q2 q3 q4
    subst q1;subst q2;subst q3
    have hl3:s.marks.length=v3.length:=by have:=q4.ok.1;omega
    simp only [ZV,yc hl3,Option.bind_some]
    refine Ret.some ⟨rfl,⟨hv.cv,⟨by show 0≤s.day+1;omega,by show s.day+1≤c.days;omega⟩,hlh,hlu,q4.ok.1,hv.hold,hv.used,q4.ok.2,q4.nr⟩,fun _=>⟨rfl,rfl,rfl,q4⟩,fun i x hi=>by omega⟩
  | false=>
    have ha:=beq_eq_false_iff_ne.1 ht
    obtain ⟨i,rfl⟩:∃ i:Nat,a=(i:Int):=⟨a.toNat,by omega⟩
    have hi:i < c.acts.length:=by omega
    have hx:=List.getElem?_eq_getElem hi
    generalize c.acts[i]=x at hx
    have av:=Ye hv.cv hx
    simp only [cond_false]
    rw [zhv c s.day s.holders s.used s.marks i x ho hv.cv hlh hlu hx hmo]
    have hiu:i < s.used.length:=by omega
    cases hearly:(!(x.kind == 1)&&s.used[i]?.getD false) with
    | true=>
      simp only [cond_true,Option.bind_some,ZV]
      refine Ret.some ⟨rfl,hv,fun h=>by omega,fun j y hj hy => ?_⟩
      obtain rfl:i=j:=by omega
      rw [hx] at hy;cases hy
      simp only [Bool.and_eq_true,Bool.not_eq_true',beq_eq_false_iff_ne,List.getElem?_eq_getElem hiu,Option.getD_some] at hearly
      exact .inl ⟨hearly.1,by rw [List.getElem?_eq_getElem hiu,hearly.2],rfl⟩
    | false=>
      simp only [cond_false]
      have hkd:=av.kind
      have hh3:(hs3 x s.holders).length=c.holders.length:=by unfold hs3;cases (x.kind == 1)<;>simp [hlh]
      have hu3:(us3 i x s.used).length=c.acts.length:=by unfold us3;cases (x.kind == 1)<;>simp [hlu]
      have hb3:∀ h∈hs3 x s.holders,0≤h∧h < c.parties:=by
        unfold hs3
        cases hk1:(x.kind == 1) with
        | true=>exact hv.hold
        | false=>
          intro h hh
          have:=hkd.resolve_left (beq_eq_false_iff_ne.1 hk1)
          rcases zf6 hh with h' | h'
          · exact hv.hold h h'
          · omega
      have hus3:∀ (j:Nat) (y:ActT),c.acts[j]?=some y→(us3 i x s.used)[j]?=some true→y.kind≠1:=by
        unfold us3
        cases hk1:(x.kind == 1) with
        | true=>exact hv.used
        | false=>
          intro j y hy hj
          simp only [cond_false] at hj
          rw [List.getElem?_set] at hj
          by_cases hij:i=j
          · subst hij
            rw [hx] at hy;cases hy
            exact beq_eq_false_iff_ne.1 hk1
          · rw [if_neg hij] at hj;exact hv.used j y hy hj
      refine Ret.bind (P:=fun v:List Int×List Bool×List MarkT×Int=>v.1=hs3 x s.holders∧v.2.1=us3 i x s.used∧v.2.2.2=s.day∧StartP c (hs3 x s.holders) (ms3 c i x s.holders s.marks) v.2.2.1)
        (Ret.bind (P:=fun v:List Int×List Bool×List MarkT=>v.1=hs3 x s.holders∧v.2.1=us3 i x s.used∧StartP c (hs3 x s.holders) (ms3 c i x s.holders s.marks) v.2.2) (Ret.bind (VA c s.day _ (us3 i x s.used) _ ho hv.cv hh3 hb3 (zhu ho hv.cv (by omega) av hmo)) fun r hr=>Ret.some ⟨rfl,rfl,hr⟩) fun v hv'=>Ret.some ⟨hv'.1,hv'.2.1,rfl,hv'.2.2⟩) ?_
      rintro ⟨v1,v2,v3,v4⟩ ⟨q1,q2,q3,q4⟩
      simp only at q1 q2 q3 q4
      subst q1;subst q2;subst q3
      have hl3:s.marks.length=v3.length:=by have:=q4.ok.1;omega
      simp only [yc (show s.holders.length=(hs3 x s.holders).length by omega),yc (show s.used.length=(us3 i x s.used).length by omega),yc hl3,Option.bind_some]
      refine Ret.some ⟨rfl,⟨hv.cv,hday,hh3,hu3,q4.ok.1,hb3,hus3,q4.ok.2,q4.nr⟩,fun h=>by omega,fun j y hj hy => ?_⟩
      obtain rfl:i=j:=by omega
      rw [hx] at hy;cases hy
      refine .inr ⟨?_,rfl,rfl,rfl,q4⟩
      simp only [Bool.and_eq_false_iff,Bool.not_eq_false',beq_iff_eq,List.getElem?_eq_getElem hiu,Option.getD_some] at hearly
      rcases hearly with h | h
      · exact .inl h
      · exact .inr (by rw [List.getElem?_eq_getElem hiu,h])
noncomputable def jU (c:ContractT) (s:StateT) (a:Int):StateT:=((d_Step c s a).getD (noS,1)).1
theorem vi {c:ContractT} {s:StateT} {a:Int} (hc:c.Ok) (hv:VS c s) (h1 : -1≤a) (h2:a < c.acts.length) (hd:s.day < c.days) :
    d_Step c s a=some (jU c s a,0)∧VS c (jU c s a)∧(a = -1→zfo c s (jU c s a))∧(∀ (i:Nat) (x:ActT),a=(i:Int)→c.acts[i]?=some x→zhw c i x s (jU c s a)):=by
  obtain ⟨⟨r1,r2⟩,e,h⟩:=zeK hc hv h1 h2 hd
  have e2:jU c s a=r1:=by unfold jU;rw [e];rfl
  rw [e2,e]
  obtain ⟨h0,h⟩:=h
  simp only at h0 h
  subst h0
  exact ⟨rfl,h⟩
theorem yA {α:Type} [BEq α] [LawfulBEq α] {f:Nat→Unit→Option (Unit ⊕ Unit)} (a b:List α) (hl:a.length=b.length) (ha:a.length < 4611686018427387904) (h:∀ (i:Nat) (h1:i < a.length) (h2:i < b.length),f i ()=some (bif a[i] == b[i] then .inl () else .inr ())) :
    forR (a.length:Int) f ()=some (bif a == b then .inl () else .inr ()):=by
  rw [kA (fun i=>a[i]? == b[i]?) ha (fun i hi=>by
    rw [h i hi (by omega),List.getElem?_eq_getElem hi,List.getElem?_eq_getElem (show i < b.length by omega)]
    show _=some (bif (some a[i] == some b[i]) then _ else _)
    rfl)]
  congr 2
  rw [Bool.eq_iff_iff,List.all_eq_true]
  constructor
  · intro hh
    rw [beq_iff_eq]
    refine List.ext_getElem? fun i => ?_
    by_cases hi:i < a.length
    · exact beq_iff_eq.1 (hh i (List.mem_range.2 hi))
    · rw [List.getElem?_eq_none (by omega),List.getElem?_eq_none (by omega)]
  · intro hh i _
    rw [beq_iff_eq.1 hh];exact beq_self_eq_true _
theorem Jm {α:Type} (a b:List α):((a.length:Int) == (b.length:Int))=decide (a.length=b.length):=by
  by_cases h:a.length=b.length
  · simp [h]
  · simp only [h,decide_false];exact beq_eq_false_iff_ne.2 (by omega)
theorem zi0 (a b:List Int) (ha:a.length < 4611686018427387904):Ya a b=some (a == b):=by
  unfold Ya
  rw [Jm]
  by_cases h:a.length=b.length
  · simp only [h,decide_true,cond_true]
    rw [←h,yA a b h ha (fun i h1 h2=>by
      simp only [zO,List.getElem?_eq_getElem h1,List.getElem?_eq_getElem h2,Option.bind_some,zk])]
    cases (a == b)<;>rfl
  · simp only [h,decide_false,cond_false]
    have:a≠b:=fun e=>h (by rw [e])
    rw [beq_eq_false_iff_ne.2 this]
theorem zi1 (a b:List Bool) (ha:a.length < 4611686018427387904):Yb a b=some (a == b):=by
  unfold Yb
  rw [Jm]
  by_cases h:a.length=b.length
  · simp only [h,decide_true,cond_true]
    rw [←h,yA a b h ha (fun i h1 h2=>by
      simp only [zO,List.getElem?_eq_getElem h1,List.getElem?_eq_getElem h2,Option.bind_some,zk])]
    cases (a == b)<;>rfl
  · simp only [h,decide_false,cond_false]
    have:a≠b:=fun e=>h (by rw [e])
    rw [beq_eq_false_iff_ne.2 this]
instance:BEq MarkT:=⟨fun a b=>(a.status == b.status)&&((a.left == b.left)&&((a.got == b.got)&&((a.bearer == b.bearer)&&((a.paused == b.paused)&&true))))⟩
instance:LawfulBEq MarkT where
  eq_of_beq {a b} h:=by
    have h':((a.status == b.status)&&((a.left == b.left)&&((a.got == b.got)&&((a.bearer == b.bearer)&&((a.paused == b.paused)&&true)))))=true:=h
    simp only [Bool.and_eq_true,beq_iff_eq,and_true] at h'
    obtain ⟨h1,h2,h3,h4,h5⟩:=h'
    cases a;cases b;simp_all
  rfl {a}:=by
    show ((a.status == a.status)&&((a.left == a.left)&&((a.got == a.got)&&((a.bearer == a.bearer)&&((a.paused == a.paused)&&true)))))=true
    simp
theorem zi2 (a b:List MarkT) (ha:a.length < 4611686018427387904):Yc a b=some (a == b):=by
  unfold Yc
  rw [Jm]
  by_cases h:a.length=b.length
  · simp only [h,decide_true,cond_true]
    rw [←h,yA a b h ha (fun i h1 h2=>by
      simp only [zO,List.getElem?_eq_getElem h1,List.getElem?_eq_getElem h2,Option.bind_some,zk];rfl)]
    cases (a == b)<;>rfl
  · simp only [h,decide_false,cond_false]
    have:a≠b:=fun e=>h (by rw [e])
    rw [beq_eq_false_iff_ne.2 this]
def xD (a b:StateT):Bool:=a.day == b.day&&(a.holders == b.holders&&(a.used == b.used&&a.marks == b.marks))
theorem VB {a b:StateT}:xD a b=true↔a=b:=by
  unfold xD
  simp only [Bool.and_eq_true,beq_iff_eq]
  constructor
  · rintro ⟨h1,h2,h3,h4⟩
    cases a;cases b;simp_all
  · rintro rfl;exact ⟨rfl,rfl,rfl,rfl⟩
theorem zaG (a b:StateT) (h1:a.holders.length < 4611686018427387904) (h2:a.used.length < 4611686018427387904) (h3:a.marks.length < 4611686018427387904):xB a b=some (xD a b):=by
  unfold xB xD
  rw [zi0 _ _ h1,zi1 _ _ h2,zi2 _ _ h3]
  simp only [Option.bind_some,zk,Bool.cond_false_right]
theorem VS.few {c:ContractT} {s:StateT} (hc:c.Ok) (h:VS c s):s.holders.length≤12∧s.used.length≤60∧s.marks.length≤400:=by
  have sm:=q7 (hc.off.lt (by omega)) h.cv
  have:=sm.holders
  have:=sm.acts
  have:=sm.clauses
  have:=h.lh
  have:=h.lu
  have:=h.lm
  omega
theorem J5 {c:ContractT} {s:StateT} (hc:c.Ok) (h:VS c s):jQ s=some s:=by
  have:=h.few hc
  unfold jQ
  rw [QL (by omega),QL (by omega),QL (by omega)]
  rfl
noncomputable def yt (c:ContractT) (party:Int) (s:StateT):Bool:=decide (0≤party)&&(decide (party < c.parties)&&vsB c s)
theorem ZW {c:ContractT} (hc:c.Ok) (party:Int) (p:PosT):jP c party p=some (yt c party p.state):=by
  unfold jP yt
  rw [yW c _ hc]
  simp only [Option.bind_some,zk,Bool.cond_false_right]
theorem yd {c:ContractT} {party:Int} {s:StateT}:yt c party s=true↔0≤party∧party < c.parties∧VS c s:=by
  simp only [yt,Bool.and_eq_true,decide_eq_true_eq]
  exact ⟨fun ⟨a,b,d⟩=>⟨a,b,zfn d⟩,fun ⟨a,b,d⟩=>⟨a,b,QM d⟩⟩
noncomputable def mvB (c:ContractT) (party:Int) (p:PosT) (i:Nat):Bool:=match c.acts[i]? with
  | some a=>((xh p.state.holders a == party) == p.own) && !xD (jU c p.state i) p.state
  | none=>false
noncomputable def qD (c:ContractT) (party:Int) (p:PosT) (n:Nat):List Int:=((List.range n).filter (mvB c party p)).map fun i:Nat=>(i:Int)
noncomputable def zh (c:ContractT) (party:Int) (p:PosT):List Int:=
  (bif p.own then [-2] else [])++(bif decide (c.days≤p.state.day) then [] else (bif p.own then [] else [-1])++qD c party p c.acts.length)
noncomputable def target (c:ContractT) (p:PosT) (move:Int):PosT:=if move = -2 then {state:=p.state,own:=false} else {state:=jU c p.state move,own:=true}
theorem jV (c:ContractT) (party:Int) (p:PosT) (n:Nat):qD c party p (n+1)=qD c party p n++(bif mvB c party p n then [(n:Int)] else []):=by
  unfold qD
  rw [List.range_succ,List.filter_append,List.map_append]
  congr 1
  cases h:mvB c party p n<;>simp [h]
theorem QO (c:ContractT) (party:Int) (p:PosT) (n:Nat):(qD c party p n).length≤n:=by
  unfold qD
  rw [List.length_map]
  have:=List.length_filter_le (mvB c party p) (List.range n)
  simpa using this
theorem Kl {c:ContractT} {s:StateT} {a:ActT} (hv:VS c s) (av:AV2 c a):(bif a.role == (-1) then some (-1) else (Option.bind (ze s.holders a.role) fun e2=>some e2))=some (xh s.holders a):=by
  unfold xh
  cases hr:(a.role == (-1:Int)) with
  | true=>rfl
  | false=>
    have h1:=beq_eq_false_iff_ne.1 hr
    have:=av.role
    have:=hv.lh
    obtain ⟨h2,h3⟩:=jj (l:=s.holders) (n:=a.role) (by omega) (by omega)
    rw [h3,List.getElem?_eq_getElem h2];rfl
theorem J6 {c:ContractT} {party:Int} {p:PosT} {n:Nat} {x:Int}:x∈qD c party p n↔∃ i:Nat,i < n∧mvB c party p i=true∧x=(i:Int):=by
  unfold qD
  simp only [List.mem_map,List.mem_filter,List.mem_range]
  constructor
  · rintro ⟨i,⟨a,b⟩,rfl⟩;exact ⟨i,a,b,rfl⟩
  · rintro ⟨i,a,b,rfl⟩;exact ⟨i,⟨a,b⟩,rfl⟩
theorem wl {c:ContractT} {party:Int} {p:PosT} {x:Int}:x∈zh c party p↔(p.own=true∧x = -2)∨(p.state.day < c.days∧p.own=false∧x = -1)∨(p.state.day < c.days∧∃ i:Nat,i < c.acts.length∧mvB c party p i=true∧x=(i:Int)):=by
  unfold zh
  by_cases hd:c.days≤p.state.day
  · have:¬ p.state.day < c.days:=by omega
    simp only [hd,decide_true,cond_true,List.append_nil,this,false_and,or_false]
    cases p.own<;>simp
  · have:p.state.day < c.days:=by omega
    simp only [hd,decide_false,cond_false,List.mem_append,J6,this,true_and]
    cases p.own<;>simp
theorem zeL (c:ContractT) (party:Int) (p:PosT) (n:Nat):(qD c party p n).Pairwise (· < ·):=by
  unfold qD
  refine List.Pairwise.map _ (R:=fun a b:Nat=>a < b) (fun a b h=>by omega) ?_
  exact List.Pairwise.filter _ List.pairwise_lt_range
theorem zdB (c:ContractT) (party:Int) (p:PosT):(zh c party p).Pairwise (· < ·):=by
  unfold zh
  refine List.pairwise_append.2 ⟨by cases p.own<;>simp,?_,?_⟩
  · cases decide (c.days≤p.state.day) with
    | true=>exact List.Pairwise.nil
    | false=>
      refine List.pairwise_append.2 ⟨by cases p.own<;>simp,zeL c party p _,fun a ha b hb => ?_⟩
      obtain ⟨i,_,_,rfl⟩:=J6.1 hb
      cases hp:p.own with
      | true=>rw [hp] at ha;simp at ha
      | false=>rw [hp] at ha;simp at ha;omega
  · intro a ha b hb
    cases hp:p.own with
    | false=>rw [hp] at ha;simp at ha
    | true=>
      rw [hp] at ha hb
      simp at ha
      cases hd:decide (c.days≤p.state.day) with
      | true=>rw [hd] at hb;simp at hb
      | false=>
        rw [hd] at hb
        simp only [cond_false,cond_true,List.nil_append] at hb
        obtain ⟨i,_,_,rfl⟩:=J6.1 hb
        omega
def Km (c:ContractT) (n:Int):Bool:=
  !(decide (20 < (c.holders.length:Int))||(decide (30 < (c.units.length:Int))||(decide (70 < (c.acts.length:Int))||(decide (n < (c.clauses.length:Int))||decide (100 < (c.off.length:Int))))))&&c.clauses.all (fun k=>!decide (20 < (k.start.length:Int)))
theorem zdC (c:ContractT) (n:Int) (hc:c.clauses.length < 4611686018427387904):kx c n=some (Km c n):=by
  unfold kx Km
  rw [x3 (l:=c.clauses) (fun k=>!decide (20 < (k.start.length:Int))) hc (fun i hi=>by
    simp only [zO,List.getElem?_eq_getElem hi,Option.bind_some]
    cases decide (20 < (c.clauses[i].start.length:Int))<;>rfl)]
  simp only [zk,Option.bind_some,Bool.cond_true_left]
  cases (decide (20 < (c.holders.length:Int))||(decide (30 < (c.units.length:Int))||(decide (70 < (c.acts.length:Int))||(decide (n < (c.clauses.length:Int))||decide (100 < (c.off.length:Int)))))) <;>
    cases c.clauses.all (fun k=>!decide (20 < (k.start.length:Int)))<;>rfl
def Yf (c:ContractT):Bool:=Km c 6&&(decide ((c.acts.length:Int)≤8)&&decide (c.days≤20))
theorem zhx {c:ContractT} (hc:c.Ok):X4 c=some (Yf c):=by
  unfold X4 Yf
  rw [zdC c 6 (hc.clauses.lt (by omega))]
  simp only [zk,Option.bind_some,Bool.cond_false_right]
theorem vH {d:Nat} (h:d < 10):(UInt8.ofNat (48+d)).toNat=48+d:=by
  rw [UInt8.toNat_ofNat'];omega
theorem QP:∀ (u:Nat),∀ b∈Lib.decDigits u,48≤b.toNat∧b.toNat≤57:=by
  intro u
  induction u using Nat.strongRecOn with
  | _ u ih=>
    intro b hb
    rw [Lib.decDigits] at hb
    by_cases h:u < 10
    · rw [dif_pos h] at hb
      simp only [List.mem_singleton] at hb
      subst hb
      rw [vH h];omega
    · rw [dif_neg h] at hb
      rcases List.mem_append.1 hb with hb | hb
      · exact ih (u / 10) (by omega) b hb
      · simp only [List.mem_singleton] at hb
        subst hb
        rw [vH (by omega)];omega
def QQ (l:List UInt8):Nat:=l.foldl (fun a b=>a*10+(b.toNat - 48)) 0
theorem yu:∀ (u:Nat),QQ (Lib.decDigits u)=u:=by
  intro u
  induction u using Nat.strongRecOn with
  | _ u ih=>
    rw [Lib.decDigits]
    by_cases h:u < 10
    · rw [dif_pos h]
      simp only [QQ,List.foldl_cons,List.foldl_nil,vH h];omega
    · rw [dif_neg h]
      have:=ih (u / 10) (by omega)
      unfold QQ at this ⊢
      rw [List.foldl_append,this]
      simp only [List.foldl_cons,List.foldl_nil,vH (show u % 10 < 10 by omega)];omega
theorem zeM {a b:Int} (h:Lib.itoa a=Lib.itoa b):a=b:=by
  have key:∀ (u v:Nat),45::Lib.decDigits u=Lib.decDigits v→False:=by
    intro u v h
    have:=QP v 45 (by rw [←h];exact List.mem_cons_self)
    have e:(45:UInt8).toNat=45:=rfl
    omega
  unfold Lib.itoa at h
  by_cases ha:a < 0
  · by_cases hb:b < 0
    · rw [if_pos ha,if_pos hb] at h
      have h1:=congrArg QQ (List.cons.inj h).2
      rw [yu,yu] at h1
      omega
    · rw [if_pos ha,if_neg hb] at h
      exact (key _ _ h).elim
  · by_cases hb:b < 0
    · rw [if_neg ha,if_pos hb] at h
      exact (key _ _ h.symm).elim
    · rw [if_neg ha,if_neg hb] at h
      have h1:=congrArg QQ h
      rw [yu,yu] at h1
      omega
theorem VC (n:Int):∀ b∈Lib.itoa n,b≠32:=by
  intro b hb e
  subst e
  have e:(32:UInt8).toNat=32:=rfl
  unfold Lib.itoa at hb
  split at hb
  · rcases List.mem_cons.1 hb with h | h
    · exact absurd h (by decide)
    · have:=QP _ _ h;omega
  · have:=QP _ _ hb;omega
def PI {α:Type} (f:α→List UInt8):Prop:=∀ (a b:α) (xs ys:List UInt8),f a++xs=f b++ys→a=b∧xs=ys
theorem zaH:∀ {a b xs ys:List UInt8},(∀ x∈a,x≠32)→(∀ x∈b,x≠32)→a++32::xs=b++32::ys→a=b∧xs=ys
  | [],[],xs,ys,_,_,h=>⟨rfl,(List.cons.inj h).2⟩
  | [],y::b,xs,ys,_,hb,h=>absurd (List.cons.inj h).1.symm (hb y List.mem_cons_self)
  | x::a,[],xs,ys,ha,_,h=>absurd (List.cons.inj h).1 (ha x List.mem_cons_self)
  | x::a,y::b,xs,ys,ha,hb,h=>by
    obtain ⟨h1,h2⟩:=List.cons.inj h
    obtain ⟨h3,h4⟩:=zaH (a:=a) (b:=b) (fun z hz=>ha z (List.mem_cons_of_mem _ hz)) (fun z hz=>hb z (List.mem_cons_of_mem _ hz)) h2
    exact ⟨by rw [h1,h3],h4⟩
theorem Zn:PI zN:=fun a b xs ys h=>by
  unfold zN at h
  rw [List.append_assoc,List.append_assoc] at h
  obtain ⟨h1,h2⟩:=zaH (VC a) (VC b) h
  exact ⟨zeM h1,h2⟩
theorem WP:PI qh:=fun a b xs ys h=>by
  unfold qh at h
  obtain ⟨h1,h2⟩:=List.cons.inj h
  refine ⟨?_,h2⟩
  cases a<;>cases b<;>first | rfl | exact absurd h1 (by decide)
theorem zf7:PI jz:=fun a b xs ys h=>by
  unfold jz at h
  simp only [List.append_assoc] at h
  obtain ⟨h1,h⟩:=Zn _ _ _ _ h
  obtain ⟨h2,h⟩:=Zn _ _ _ _ h
  obtain ⟨h3,h⟩:=Zn _ _ _ _ h
  obtain ⟨h4,h⟩:=Zn _ _ _ _ h
  obtain ⟨h5,h6⟩:=WP _ _ _ _ h
  refine ⟨?_,h6⟩
  clear h6 h
  cases a;cases b
  simp only at h1 h2 h3 h4 h5
  subst h1;subst h2;subst h3;subst h4;subst h5
  rfl
theorem Jn {α:Type} {f:α→List UInt8} (hf:PI f):∀ {l m:List α} {xs ys:List UInt8},l.length=m.length→l.flatMap f++xs=m.flatMap f++ys→l=m∧xs=ys
  | [],[],_,_,_,h=>⟨rfl,h⟩
  | [],_::_,_,_,hl,_=>by simp at hl
  | _::_,[],_,_,hl,_=>by simp at hl
  | a::l,b::m,xs,ys,hl,h=>by
    rw [List.flatMap_cons,List.flatMap_cons,List.append_assoc,List.append_assoc] at h
    obtain ⟨h1,h⟩:=hf _ _ _ _ h
    obtain ⟨h2,h⟩:=Jn hf (by simpa using hl) h
    exact ⟨by rw [h1,h2],h⟩
theorem zeN {c:ContractT} {p q:PosT} (hp:VS c p.state) (hq:VS c q.state) (h:z8 p=z8 q):p=q:=by
  unfold z8 at h
  simp only [List.append_assoc] at h
  obtain ⟨h1,h⟩:=WP _ _ _ _ h
  obtain ⟨h2,h⟩:=Zn _ _ _ _ h
  obtain ⟨h3,h⟩:=Jn Zn (by rw [hp.lh,hq.lh]) h
  obtain ⟨h4,h⟩:=Jn WP (by rw [hp.lu,hq.lu]) h
  have h5:=(Jn (l:=p.state.marks) (m:=q.state.marks) (xs:=[]) (ys:=[]) zf7 (by rw [hp.lm,hq.lm]) (by rw [List.append_nil,List.append_nil];exact h)).1
  clear h
  obtain ⟨⟨d,hs,us,ms⟩,o⟩:=p
  obtain ⟨⟨d',hs',us',ms'⟩,o'⟩:=q
  simp only at h1 h2 h3 h4 h5
  subst h1;subst h2;subst h3;subst h4;subst h5;rfl
theorem ZX {α:Type} {f:α→List UInt8} {b:Nat}:∀ {l:List α},(∀ a∈l,(f a).length≤b)→(l.flatMap f).length≤l.length*b
  | [],_=>by simp
  | a::l,h=>by
    have h1:=h a List.mem_cons_self
    have h2:=ZX (f:=f) (b:=b) (l:=l) fun x hx=>h x (List.mem_cons_of_mem _ hx)
    rw [List.flatMap_cons,List.length_append,List.length_cons,Nat.succ_mul];omega
theorem zhy {c:ContractT} {i:Nat} {k:ClauseT} {m:MarkT} (kv:KV c i k) (hp:c.parties≤12) (h:jf c.parties k m=true):(0≤m.status∧m.status≤5)∧(0≤m.left∧m.left≤400)∧(0≤m.got∧m.got≤9)∧(-1≤m.bearer∧m.bearer≤12):=by
  have hn:=kv.need
  rcases ve.1 h with ⟨h0,_,h1⟩ | ⟨h0,h1,h2⟩ | ⟨h0,h1,h2,h3⟩ | ⟨h0,h1⟩
  · simp only [Yd,Bool.and_eq_true,beq_iff_eq] at h1
    omega
  · have hr:jG m=true:=by simp [jG,h0]
    obtain ⟨rv,_,_⟩:=wk kv h hr
    have:=rv.left;have:=rv.got;have:=rv.bearer
    omega
  · have hr:jG m=true:=by simp [jG,h0]
    obtain ⟨rv,_,_⟩:=wk kv h hr
    have:=rv.left;have:=rv.got;have:=rv.bearer
    omega
  · simp only [zbM,Bool.and_eq_true,beq_iff_eq,decide_eq_true_eq] at h1
    omega
theorem vj {n:Int} (h0 : -1000000≤n) (h1:n≤1000000):xg n=true:=by
  simp only [xg,Bool.and_eq_true,decide_eq_true_eq];omega
theorem yB {n:Int} (h0 : -1000000≤n) (h1:n≤1000000):(zN n).length≤22:=by
  have:=Lib.itoa_length_le n (by omega) (by omega)
  simp only [zN,List.length_append,List.length_cons,List.length_nil];omega
def txt (p:PosT):ByteArray:=⟨(z8 p).toArray⟩
theorem WQ {c:ContractT} {p q:PosT} (hp:VS c p.state) (hq:VS c q.state) (h:txt p=txt q):p=q:=by
  refine zeN hp hq ?_
  unfold txt at h
  have h2:=congrArg (fun b:ByteArray=>b.data.toList) h
  simpa using h2
theorem QR {c:ContractT} (hc:c.Ok) {p:PosT} (hp:VS c p.state):qK p=some (txt p):=by
  have ho:=hc.off.lt (by omega:0 < 8)
  have sm:=q7 ho hp.cv
  have hpa:=sm.parties
  have hda:=sm.days
  have hday:=hp.day
  have hf:=hp.few hc
  have hh:∀ h∈p.state.holders,-1000000≤h∧h≤1000000:=fun h hh=>by have:=hp.hold h hh;omega
  have hm:∀ m∈p.state.marks,(0≤m.status∧m.status≤5)∧(0≤m.left∧m.left≤400)∧(0≤m.got∧m.got≤9)∧(-1≤m.bearer∧m.bearer≤12):=fun m hm=>by
    obtain ⟨i,hi,rfl⟩:=List.getElem_of_mem hm
    have hk:=List.getElem?_eq_getElem (show i < c.clauses.length by have:=hp.lm;omega)
    exact zhy (yq ho hp.cv hk) (by omega) (hp.mrk i _ _ hk (List.getElem?_eq_getElem hi))
  have hlen:(z8 p).length≤1000000000:=by
    have h1:=yB (n:=p.state.day) (by omega) (by omega)
    have h2:=ZX (f:=zN) (b:=22) (l:=p.state.holders) fun h hh'=>yB (hh h hh').1 (hh h hh').2
    have h3:=ZX (f:=qh) (b:=1) (l:=p.state.used) fun _ _=>by simp [qh]
    have h4:=ZX (f:=jz) (b:=89) (l:=p.state.marks) fun m hm'=>by
      have:=hm m hm'
      have a1:=yB (n:=m.status) (by omega) (by omega)
      have a2:=yB (n:=m.left) (by omega) (by omega)
      have a3:=yB (n:=m.got) (by omega) (by omega)
      have a4:=yB (n:=m.bearer) (by omega) (by omega)
      simp only [jz,qh,List.length_append,List.length_cons,List.length_nil];omega
    simp only [z8,List.length_append]
    have:(qh p.own).length=1:=rfl
    omega
  have hok:okP p=true:=by
    simp only [okP,Bool.and_eq_true,decide_eq_true_eq,List.all_eq_true]
    refine ⟨⟨⟨vj (by omega) (by omega),fun x hx=>vj (hh x hx).1 (hh x hx).2⟩,fun m hm' => ?_⟩,hlen⟩
    have:=hm m hm'
    exact ⟨⟨⟨vj (by omega) (by omega),vj (by omega) (by omega)⟩,vj (by omega) (by omega)⟩,vj (by omega) (by omega)⟩
  unfold qK txt
  rw [if_pos hok]
instance:BEq PosT:=⟨fun a b=>a.own == b.own&&xD a.state b.state⟩
instance:LawfulBEq PosT where
  eq_of_beq {a b} h:=by
    have h':(a.own == b.own&&xD a.state b.state)=true:=h
    simp only [Bool.and_eq_true,beq_iff_eq,VB] at h'
    obtain ⟨h1,h2⟩:=h'
    cases a;cases b;simp_all
  rfl {a}:=by
    show (a.own == a.own&&xD a.state a.state)=true
    simp [VB.2 rfl]
noncomputable instance:DecidableEq PosT:=fun a b=>if h:(a == b)=true then isTrue (eq_of_beq h) else isFalse fun e=>h (beq_iff_eq.2 e)
def Zo (q:PosT) (L:List PosT):Option Int:=if q∈L then some (L.idxOf q:Int) else none
def visit (L:List PosT) (q:PosT):Option (Int×List PosT):=if q∈L then some ((L.idxOf q:Int),L) else if L.length=1500 then none else some ((L.length:Int),L++[q])
def Kn (L:List PosT) (F:List (ByteArray×Int)) (q:PosT):List (ByteArray×Int):=if q∈L then F else zX (txt q) (L.length:Int) F
def FRel (c:ContractT) (F:List (ByteArray×Int)) (L:List PosT):Prop:=∀ q:PosT,VS c q.state→zq (txt q) F=Zo q L
theorem xE {α β:Type} [DecidableEq α] (k:α) (v:β):∀ l:List (α×β),zq k (zX k v l)=some v
  | []=>by simp [zX,zq]
  | (k',v')::r=>by
    unfold zX
    split
    · simp [zq]
    · rename_i h;simp only [zq,h,if_false];exact xE k v r
theorem yX {α β:Type} [DecidableEq α] {k k2:α} (v:β) (h:k2≠k):∀ l:List (α×β),zq k2 (zX k v l)=zq k2 l
  | []=>by simp [zX,zq,h]
  | (k',v')::r=>by
    unfold zX
    split
    · rename_i e;subst e;simp only [zq,h,if_false]
    · by_cases h2:k2=k'
      · simp only [zq,h2,if_true]
      · simp only [zq,h2,if_false];exact yX v h r
theorem zae {q q':PosT} {L:List PosT} (hq:q ∉ L):Zo q' (L++[q])=if q'=q then some (L.length:Int) else Zo q' L:=by
  unfold Zo
  by_cases h:q'=q
  · subst h
    rw [if_pos (by simp),if_pos rfl,List.idxOf_append,if_neg hq]
    simp
  · rw [if_neg h]
    by_cases hm:q'∈L
    · rw [if_pos (by simp [hm]),if_pos hm,List.idxOf_append,if_pos hm]
    · rw [if_neg (by simp [hm,h]),if_neg hm]
theorem FRel.visit {c:ContractT} {F:List (ByteArray×Int)} {L L':List PosT} {q:PosT} {to:Int} (h:FRel c F L) (hq:VS c q.state) (hv:visit L q=some (to,L')):FRel c (Kn L F q) L':=by
  unfold Go.Proofs.YtmoedieenlaegaaGreatDoor.visit at hv
  unfold Kn
  by_cases hm:q∈L
  · rw [if_pos hm] at hv ⊢; cases hv;exact h
  · rw [if_neg hm] at hv ⊢
    split at hv
    · cases hv
    · cases hv
      intro q' hq'
      rw [zae hm]
      by_cases e:q'=q
      · subst e;rw [xE,if_pos rfl]
      · rw [yX _ (fun h2=>e (WQ hq' hq h2)),if_neg e,h q' hq']
theorem zeO {c:ContractT} {F:List (ByteArray×Int)} {L:List PosT} {q:PosT} (h:FRel c F L) (hq:VS c q.state) (hl:L.length≤1500) :
    (bif ((zq (txt q) F).isSome) then some (.inl (((zq (txt q) F).getD 0),L,F)) else (bif ((L.length:Int) == 1500) then some (.inr ()) else (Option.bind (zS (α:=PosT) 88 L [q]) fun e2=>some (.inl ((L.length:Int),e2,(zX (txt q) (L.length:Int) F)))))) =
      some (match visit L q with | some (to,L')=>(.inl (to,L',Kn L F q):(Int×(List PosT)×(List (ByteArray×Int))) ⊕ Unit) | none=>.inr ()):=by
  rw [h q hq]
  unfold Zo visit Kn
  by_cases hm:q∈L
  · simp only [hm,if_true,Option.isSome_some,cond_true,Option.getD_some]
  · simp only [hm,if_false,Option.isSome_none,cond_false]
    by_cases h2:L.length=1500
    · have:((L.length:Int) == 1500)=true:=beq_iff_eq.2 (by omega)
      simp only [h2,if_true];rfl
    · have:((L.length:Int) == 1500)=false:=beq_eq_false_iff_ne.2 (by omega)
      simp only [h2,if_false,this,cond_false]
      rw [xz (by simp;omega)];rfl
noncomputable def jH (c:ContractT) (e:PosT):List Int→List PosT×List MoveT→Option (List PosT×List MoveT)
  | [],s=>some s
  | m::ms,(L,K)=>match visit L (target c e m) with
    | none=>none
    | some (to,L')=>jH c e ms (L',K++[{step:=m,to:=to}])
theorem kP (c:ContractT) (e:PosT):∀ (a b:List Int) (s:List PosT×List MoveT),jH c e (a++b) s=(jH c e a s).bind (jH c e b)
  | [],b,s=>rfl
  | m::a,b,(L,K)=>by
    simp only [List.cons_append,jH]
    cases visit L (target c e m) with
    | none=>rfl
    | some x=>exact kP c e a b _
def J7:Nat→List MoveT→Option Nat
  | n,[]=>some n
  | n,t::r=>if 0≤t.to∧t.to≤(n:Int) then J7 (if t.to=(n:Int) then n+1 else n) r else none
def ye:Nat→Nat→List (List MoveT)→Option Nat
  | i,n,[]=>some n
  | i,n,l::r=>if i < n then (J7 n l).bind fun n'=>ye (i+1) n' r else none
theorem JI (l:List MoveT):∀ (M:List (List MoveT)) (i n:Nat),ye i n (M++[l])=(ye i n M).bind fun n'=>if i+M.length < n' then J7 n' l else none
  | [],i,n=>by
    simp only [List.nil_append,ye,Option.bind_some,List.length_nil,Nat.add_zero]
    split
    · cases J7 n l<;>rfl
    · rfl
  | x::M,i,n=>by
    simp only [List.cons_append,ye,List.length_cons]
    split
    · cases J7 n x with
      | none=>rfl
      | some n'=>
        simp only [Option.bind_some]
        rw [JI l M (i+1) n',show i+1+M.length=i+(M.length+1) by omega]
    · rfl
inductive Rch (c:ContractT) (party:Int) (p0:PosT):PosT→Prop where
  | base:Rch c party p0 p0
  | step {q:PosT} {m:Int} (h:Rch c party p0 q) (hm:m∈zh c party q):Rch c party p0 (target c q m)
theorem yf {c:ContractT} (hc:c.Ok) {party:Int} {e:PosT} {m:Int} (he:VS c e.state) (hm:m∈zh c party e):VS c (target c e m).state:=by
  unfold target
  by_cases h2:m = -2
  · rw [if_pos h2];exact he
  · rw [if_neg h2]
    rcases wl.1 hm with h | ⟨hd,_,rfl⟩ | ⟨hd,i,hi,_,rfl⟩
    · exact absurd h.2 h2
    · exact (vi hc he (by omega) (by omega) hd).2.1
    · exact (vi hc he (by omega) (by omega) hd).2.1
structure PInv (c:ContractT) (party:Int) (p0:PosT) (L:List PosT):Prop where
  vs:∀ q∈L,VS c q.state
  nd:L.Nodup
  rch:∀ q∈L,Rch c party p0 q
  len:L.length≤1500
theorem VD {c:ContractT} {party:Int} {p0 q:PosT} {L L':List PosT} {to:Int} (h:PInv c party p0 L) (hq:VS c q.state) (hr:Rch c party p0 q) (hv:visit L q=some (to,L')) :
    PInv c party p0 L'∧(∃ r,L'=L++r)∧0≤to∧L'[to.toNat]?=some q∧to≤(L.length:Int)∧L'.length=(if to=(L.length:Int) then L.length+1 else L.length):=by
  unfold visit at hv
  by_cases hm:q∈L
  · rw [if_pos hm] at hv;cases hv
    have hi:=List.idxOf_lt_length_iff.2 hm
    refine ⟨h,⟨[],by simp⟩,by omega,?_,by omega,by rw [if_neg (by omega)]⟩
    rw [Int.toNat_natCast,List.getElem?_eq_getElem hi,List.getElem_idxOf hi]
  · rw [if_neg hm] at hv
    split at hv
    · cases hv
    · rename_i hl
      cases hv
      have hlen:=h.len
      refine ⟨⟨fun x hx => ?_,?_,fun x hx => ?_,by simp;omega⟩,⟨[q],rfl⟩,by omega,by simp,Int.le_refl _,by simp⟩
      · rcases List.mem_append.1 hx with hx | hx
        · exact h.vs x hx
        · rw [List.mem_singleton.1 hx];exact hq
      · exact List.nodup_append.2 ⟨h.nd,by simp,fun a ha b hb=>by rw [List.mem_singleton.1 hb];exact fun e=>hm (e ▸ ha)⟩
      · rcases List.mem_append.1 hx with hx | hx
        · exact h.rch x hx
        · rw [List.mem_singleton.1 hx];exact hr
theorem zdD {L:List PosT} {q:PosT} (hv:visit L q=none):q ∉ L:=by
  unfold visit at hv
  split at hv
  · cases hv
  · assumption
theorem zbQ {L:List PosT} {q:PosT} (hv:visit L q=none):L.length=1500:=by
  unfold visit at hv
  split at hv
  · cases hv
  · split at hv
    · rename_i h;exact h
    · cases hv
def MvOk (c:ContractT) (party:Int) (L:List PosT) (e:PosT) (ms:List Int) (T:List MoveT):Prop:=T.map (·.step)=ms∧∀ t∈T,0≤t.to∧L[t.to.toNat]?=some (target c e t.step)
theorem Jo {α:Type} {L r:List α} {i:Nat} {x:α} (h:L[i]?=some x):(L++r)[i]?=some x:=by
  rw [List.getElem?_append_left (List.getElem?_eq_some_iff.1 h).1];exact h
theorem MvOk.app {c:ContractT} {party:Int} {L:List PosT} {e:PosT} {ms:List Int} {T:List MoveT} (h:MvOk c party L e ms T) (r:List PosT):MvOk c party (L++r) e ms T:=
  ⟨h.1,fun t ht=>⟨(h.2 t ht).1,Jo (h.2 t ht).2⟩⟩
theorem J8 {c:ContractT} (hc:c.Ok) {party:Int} {p0 e:PosT} (he:VS c e.state) (hr:Rch c party p0 e):∀ (ms:List Int) (L L':List PosT) (K K':List MoveT),(∀ m∈ms,m∈zh c party e)→PInv c party p0 L→jH c e ms (L,K)=some (L',K') →
    PInv c party p0 L'∧(∃ r,L'=L++r)∧∃ T,K'=K++T∧MvOk c party L' e ms T∧J7 L.length T=some L'.length
  | [],L,L',K,K',_,h,hp=>by
    cases hp
    exact ⟨h,⟨[],by simp⟩,[],by simp,⟨rfl,fun t ht=>by cases ht⟩,rfl⟩
  | m::ms,L,L',K,K',hms,h,hp=>by
    simp only [jH] at hp
    have hm:=hms m List.mem_cons_self
    cases hv:visit L (target c e m) with
    | none=>rw [hv] at hp;cases hp
    | some x=>
      obtain ⟨to,L1⟩:=x
      rw [hv] at hp
      obtain ⟨h1,⟨r1,e1⟩,t0,tq,tl,tn⟩:=VD h (yf hc he hm) (.step hr hm) hv
      obtain ⟨h2,⟨r2,e2⟩,T,eT,hT,hch⟩:=J8 hc he hr ms L1 L' _ K' (fun x hx=>hms x (List.mem_cons_of_mem _ hx)) h1 hp
      refine ⟨h2,⟨r1++r2,by rw [e2,e1,List.append_assoc]⟩,{step:=m,to:=to}::T,by rw [eT];simp,⟨by simp [hT.1],fun t ht => ?_⟩,?_⟩
      · rcases List.mem_cons.1 ht with rfl | ht
        · exact ⟨t0,by rw [e2];exact Jo tq⟩
        · exact hT.2 t ht
      · simp only [J7]
        rw [if_pos ⟨t0,tl⟩,←tn];exact hch
theorem VE {c:ContractT} (hc:c.Ok) {party:Int} {p0 e:PosT} (he:VS c e.state) (hr:Rch c party p0 e):∀ (ms:List Int) (L:List PosT) (K:List MoveT),(∀ m∈ms,m∈zh c party e)→PInv c party p0 L→jH c e ms (L,K)=none →
    ∃ L1,PInv c party p0 L1∧L1.length=1500∧∃ q,Rch c party p0 q∧q ∉ L1
  | [],L,K,_,h,hp=>by cases hp
  | m::ms,L,K,hms,h,hp=>by
    simp only [jH] at hp
    have hm:=hms m List.mem_cons_self
    cases hv:visit L (target c e m) with
    | none=>exact ⟨L,h,zbQ hv,_,.step hr hm,zdD hv⟩
    | some x=>
      obtain ⟨to,L1⟩:=x
      rw [hv] at hp
      obtain ⟨h1,_⟩:=VD h (yf hc he hm) (.step hr hm) hv
      exact VE hc he hr ms L1 _ (fun x hx=>hms x (List.mem_cons_of_mem _ hx)) h1 hp
abbrev XT:Type:=(List PosT)×(List (ByteArray×Int))×(List MoveT)
def GotP (c:ContractT) (party:Int) (p0 e:PosT) (L0:List PosT) (ms:List Int) (x:XT):Prop:=jH c e ms (L0,[])=some (x.1,x.2.2)∧FRel c x.2.1 x.1
theorem wm {c:ContractT} (hc:c.Ok) {party:Int} {e:PosT} (he:VS c e.state):(zh c party e).length≤62:=by
  have sm:=q7 (hc.off.lt (by omega)) he.cv
  have sa:=sm.acts
  have:=QO c party e c.acts.length
  unfold zh
  cases e.own<;>cases decide (c.days≤e.state.day)<;>simp<;>omega
theorem GotP.facts {c:ContractT} (hc:c.Ok) {party:Int} {p0 e:PosT} {L0:List PosT} {ms:List Int} {x:XT} (he:VS c e.state) (hr:Rch c party p0 e) (hP:PInv c party p0 L0) (hms:∀ m∈ms,m∈zh c party e) (h:GotP c party p0 e L0 ms x) :
    PInv c party p0 x.1∧x.2.2.length=ms.length:=by
  obtain ⟨h1,_,T,eT,hT,_⟩:=J8 hc he hr ms L0 x.1 [] x.2.2 hms hP h.1
  refine ⟨h1,?_⟩
  rw [eT,List.nil_append,←hT.1,List.length_map]
theorem J9 {c:ContractT} (hc:c.Ok) {party:Int} {p0 e:PosT} {L0:List PosT} {ms:List Int} {m:Int} {L:List PosT} {F:List (ByteArray×Int)} {K:List MoveT} {q:PosT} (he:VS c e.state) (hr:Rch c party p0 e) (hP:PInv c party p0 L0) (hms:∀ x∈ms,x∈zh c party e) (hm:m∈zh c party e) (hlen:ms.length≤100)
    (hq:q=target c e m) (h:GotP c party p0 e L0 ms (L,F,K)) {β:Type} {k:Int×(List PosT)×(List (ByteArray×Int))→Option β} {z:Option β} {Q:β→Prop}
    (hk:∀ (to:Int) (L':List PosT) (F':List (ByteArray×Int)),GotP c party p0 e L0 (ms++[m]) (L',F',K++[{step:=m,to:=to}])→zS (α:=MoveT) 16 K [({step:=m,to:=to}:MoveT)]=some (K++[{step:=m,to:=to}])→Ret (k (to,L',F')) Q)
    (hz:jH c e (ms++[m]) (L0,[])=none→Ret z Q) :
    Ret (Option.bind (qK q) fun r=>(Option.bind (α:=(Int×(List PosT)×(List (ByteArray×Int))) ⊕ Unit) (bif ((zq r F).isSome) then some (.inl (((zq r F).getD 0),L,F)) else (bif ((L.length:Int) == 1500) then some (.inr ()) else (Option.bind (zS (α:=PosT) 88 L [q]) fun e2=>some (.inl ((L.length:Int),e2,(zX r (L.length:Int) F)))))) (Sum.elim k (fun _=>z)))) Q:=by
  obtain ⟨hPI,hKl⟩:=h.facts hc he hr hP hms
  have hvq:VS c q.state:=by rw [hq];exact yf hc he hm
  refine Ret.bindE (QR hc hvq) ?_
  refine Ret.bindE (zeO h.2 hvq hPI.len) ?_
  have happ:jH c e (ms++[m]) (L0,[])=(match visit L q with | none=>none | some (to,L')=>some (L',K++[{step:=m,to:=to}])):=by
    rw [kP,h.1]
    simp only [Option.bind_some,jH,hq]
    all_goals (cases visit L (target c e m)<;>rfl)
  cases hv:visit L q with
  | none=>
    rw [hv] at happ
    exact hz happ
  | some x=>
    obtain ⟨to,L'⟩:=x
    rw [hv] at happ
    refine hk to L' (Kn L F q) ⟨happ,FRel.visit h.2 hvq hv⟩ (xz ?_)
    simp only at hKl
    rw [hKl];simp;omega
theorem Wb (c:ContractT) (party:Int) (p:PosT) {m n:Nat} (h:m≤n):∃ r,qD c party p n=qD c party p m++r:=by
  induction h with
  | refl=>exact ⟨[],by simp⟩
  | step _ ih=>
    obtain ⟨r,hr⟩:=ih
    rw [jV,hr]
    exact ⟨_,List.append_assoc _ _ _⟩
theorem yh {c:ContractT} {e:PosT} {a b:List Int} {s:List PosT×List MoveT} (h:jH c e a s=none):jH c e (a++b) s=none:=by rw [kP,h];rfl
structure FromOk (c:ContractT) (party:Int) (p:PosT) (L:List PosT) (M:List (List MoveT)):Prop where
  inv:PInv c party p L
  first:L[0]?=some p
  len:M.length=L.length
  mv:∀ (j:Nat) (T:List MoveT) (e:PosT),M[j]?=some T→L[j]?=some e→MvOk c party L e (zh c party e) T
  chk:ye 0 1 M=some L.length
def zeP (c:ContractT) (party:Int) (p:PosT):Prop:=∃ L1,PInv c party p L1∧L1.length=1500∧∃ q,Rch c party p q∧q ∉ L1
structure FInv (c:ContractT) (party:Int) (p:PosT) (s:Int×(List PosT)×(List (List MoveT))×(List (ByteArray×Int))):Prop where
  i:s.1=(s.2.2.1.length:Int)
  le:s.2.2.1.length≤s.2.1.length
  inv:PInv c party p s.2.1
  rel:FRel c s.2.2.2 s.2.1
  first:s.2.1[0]?=some p
  mv:∀ (j:Nat) (T:List MoveT) (e:PosT),s.2.2.1[j]?=some T→s.2.1[j]?=some e→MvOk c party s.2.1 e (zh c party e) T
  chk:ye 0 1 s.2.2.1=some s.2.1.length
theorem zeQ {c:ContractT} (hc:c.Ok) {party:Int} {p:PosT} (hpl:yt c party p.state=true) :
    Ret (jb c party p) (fun r=>(r.2=0∧r.1.party=party∧FromOk c party p r.1.positions r.1.moves)∨(r.2=3∧zeP c party p)):=by
  obtain ⟨hp0,hp1,hv⟩:=yd.1 hpl
  have sm:=q7 (hc.off.lt (by omega)) hv.cv
  have sa:=sm.acts
  unfold jb
  refine Ret.bindE (by rw [ZW hc,hpl]) ?_
  refine Ret.ite (fun _ => ?_) (fun h=>by cases h)
  refine Ret.bindE (J5 hc hv) ?_
  refine Ret.bindE (QR hc hv) ?_
  refine Ret.bind (P:=fun o:((List PosT)×(List (List MoveT))) ⊕ Unit=>(∃ L M,o=.inl (L,M)∧FromOk c party p L M)∨(o=.inr ()∧zeP c party p)) ?_ ?_
  · refine Ret.bind (P:=fun o:((List PosT)×(List (List MoveT))) ⊕ Unit=>(∃ L M,o=.inl (L,M)∧FromOk c party p L M)∨(o=.inr ()∧zeP c party p)) (Ret.iter (FInv c party p) (fun s=>(1501 - s.1).toNat) ?_ ?_) ?_
    · refine ⟨rfl,by simp,⟨fun q hq => ?_,by simp,fun q hq => ?_,by simp⟩,?_,rfl,fun j T e h=>by simp at h,rfl⟩
      · rw [List.mem_singleton.1 hq];exact hv
      · rw [List.mem_singleton.1 hq];exact .base
      · intro q hq
        simp only [zX,zq,Zo,List.mem_singleton]
        by_cases e:q={state:=p.state,own:=p.own}
        · subst e
          simp [List.idxOf_cons,txt]
        · have e2:txt q≠txt p:=fun h=>e (WQ hq hv h)
          rw [if_neg e2,if_neg e]
    · rintro ⟨i,L,M,F⟩ ⟨hi,hle,hinv,hrel,hfst,hmv,hchk⟩
      simp only at hi hle hinv hrel hfst hmv hchk ⊢
      subst hi
      have hlen:=hinv.len
      refine Ret.ite (fun hlt => ?_) (fun hge => ?_)
      · have hlt:=of_decide_eq_true hlt
        have hML:M.length < L.length:=by omega
        have heq:=List.getElem?_eq_getElem hML
        have hme:=List.getElem_mem hML
        have he:=hinv.vs _ hme
        have hr:=hinv.rch _ hme
        generalize L[M.length]=e at heq he hr
        have hmlen:=wm hc (party:=party) he
        refine Ret.bind (P:=fun o:XT ⊕ Unit=>(∃ x,o=.inl x∧GotP c party p e L (zh c party e) x)∨(o=.inr ()∧jH c e (zh c party e) (L,[])=none)) ?_ ?_
        · refine Ret.bindE (zx heq) ?_
          refine Ret.bindE (x:=XX c party e) (v:=()) rfl ?_
          refine Ret.bind (P:=fun o:XT ⊕ (Unit ⊕ XT)=>(∃ x,o=.inl x∧e.state.day < c.days∧GotP c party p e L (bif e.own then [-2] else []) x)∨(o=.inr (.inl ())∧jH c e (bif e.own then [-2] else []) (L,[])=none)∨(∃ x,o=.inr (.inr x)∧c.days≤e.state.day∧GotP c party p e L (bif e.own then [-2] else []) x)) ?_ ?_
          · have hbase:GotP c party p e L [] (L,F,[]):=⟨rfl,hrel⟩
            cases ho:e.own with
            | false=>
              simp only [cond_false]
              refine Ret.ite (fun hd=>Ret.some (.inr (.inr ⟨_,rfl,of_decide_eq_true hd,hbase⟩))) (fun hd=>Ret.some (.inl ⟨_,rfl,by have:=of_decide_eq_false hd;omega,hbase⟩))
            | true=>
              simp only [cond_true]
              refine Ret.bindE (J5 hc he) ?_
              have hm2:(-2:Int)∈zh c party e:=wl.2 (.inl ⟨ho,rfl⟩)
              refine J9 hc he hr hinv (fun x hx=>by cases hx) hm2 (by simp) (by unfold target;rw [if_pos rfl]) hbase (fun to L' F' hg ha => ?_) (fun hz=>Ret.some (.inr (.inl ⟨rfl,hz⟩)))
              refine Ret.bindE ha ?_
              refine Ret.ite (fun hd=>Ret.some (.inr (.inr ⟨_,rfl,of_decide_eq_true hd,hg⟩))) (fun hd=>Ret.some (.inl ⟨_,rfl,by have:=of_decide_eq_false hd;omega,hg⟩))
          · rintro o (⟨⟨L1,F1,K1⟩,rfl,hd,hg⟩ | ⟨rfl,hn⟩ | ⟨⟨L1,F1,K1⟩,rfl,hd,hg⟩)
            · -- there is time left: the tick
              have hmv0:zh c party e=(bif e.own then [-2] else [-1])++qD c party e c.acts.length:=by
                unfold zh
                rw [decide_eq_false (show ¬ c.days≤e.state.day by omega)]
                cases e.own<;>rfl
              refine Ret.bind (P:=fun o:XT ⊕ Unit=>(∃ x,o=.inl x∧GotP c party p e L (bif e.own then [-2] else [-1]) x)∨(o=.inr ()∧jH c e (bif e.own then [-2] else [-1]) (L,[])=none)) ?_ ?_
              · cases ho:e.own with
                | true=>rw [ho] at hg;exact Ret.some (.inl ⟨_,rfl,hg⟩)
                | false=>
                  rw [ho] at hg
                  simp only [cond_false] at hg ⊢
                  obtain ⟨est,_⟩:=vi (a := -1) hc he (by omega) (by omega) hd
                  refine Ret.bindE est ?_
                  have hm1:(-1:Int)∈zh c party e:=wl.2 (.inr (.inl ⟨hd,ho,rfl⟩))
                  refine J9 hc he hr hinv (fun x hx=>by cases hx) hm1 (by simp) (by unfold target;rw [if_neg (by omega)]) hg (fun to L' F' hg ha => ?_) (fun hz=>Ret.some (.inr ⟨rfl,hz⟩))
                  refine Ret.bindE ha ?_
                  exact Ret.some (.inl ⟨_,rfl,hg⟩)
              · rintro o (⟨⟨L2,F2,K2⟩,rfl,hg2⟩ | ⟨rfl,hn⟩)
                · -- the acts
                  refine Ret.bind (P:=fun o:XT ⊕ XT=>(∃ x,o=.inl x∧GotP c party p e L (zh c party e) x)∨(∃ x,o=.inr x∧jH c e (zh c party e) (L,[])=none)) ?_ ?_
                  · have hsub:∀ i,i≤c.acts.length→∀ x∈(bif e.own then [-2] else [-1])++qD c party e i,x∈zh c party e:=by
                      intro i hi x hx
                      rw [hmv0]
                      obtain ⟨r,hr'⟩:=Wb c party e hi
                      rw [hr']
                      rcases List.mem_append.1 hx with h | h
                      · exact List.mem_append.2 (.inl h)
                      · exact List.mem_append.2 (.inr (List.mem_append.2 (.inl h)))
                    refine Ret.forL (n:=c.acts.length) (fun i s=>GotP c party p e L ((bif e.own then [-2] else [-1])++qD c party e i) s) (by omega) ?_ ?_ (fun s hs=>.inl ⟨s,rfl,by rw [hmv0];exact hs⟩)
                    · show GotP c party p e L ((bif e.own then [-2] else [-1])++qD c party e 0) (L2,F2,K2)
                      have:qD c party e 0=[]:=rfl
                      rw [this,List.append_nil];exact hg2
                    · rintro i ⟨L3,F3,K3⟩ hi hg3
                      simp only
                      have hx:=List.getElem?_eq_getElem hi
                      have av:=Ye hv.cv hx
                      have hmvb:mvB c party e i=(((xh e.state.holders c.acts[i] == party) == e.own) && !xD (jU c e.state i) e.state):=by simp only [mvB,hx]
                      have hlenA:=QO c party e i
                      refine Ret.bind (P:=fun o:XT ⊕ Unit=>(∃ x,o=.inl x∧GotP c party p e L ((bif e.own then [-2] else [-1])++qD c party e (i+1)) x)∨(o=.inr ()∧jH c e ((bif e.own then [-2] else [-1])++qD c party e (i+1)) (L,[])=none)) ?_ ?_
                      · refine Ret.bindE (zx hx) ?_
                        refine Ret.bindE (Kl he av) ?_
                        refine Ret.ite (fun hq => ?_) (fun hq => ?_)
                        · obtain ⟨est,hvs,_⟩:=vi (a:=(i:Int)) hc he (by omega) (by omega) hd
                          have hfew:=hvs.few hc
                          refine Ret.bindE est ?_
                          refine Ret.bindE (zaG (jU c e.state i) e.state (by omega) (by omega) (by omega)) ?_
                          refine Ret.ite (fun hs=>Ret.some (.inl ⟨_,rfl,?_⟩)) (fun hs => ?_)
                          · rw [jV,hmvb,hq,hs]
                            simpa using hg3
                          · have hb:mvB c party e i=true:=by rw [hmvb,hq,hs];rfl
                            have hmi:(i:Int)∈zh c party e:=wl.2 (.inr (.inr ⟨hd,i,hi,hb,rfl⟩))
                            have hact:qD c party e (i+1)=qD c party e i++[(i:Int)]:=by rw [jV,hb];rfl
                            rw [hact,←List.append_assoc]
                            refine J9 hc he hr hinv (hsub i (by omega)) hmi (by cases e.own<;>simp<;>omega) (by unfold target;rw [if_neg (by omega)]) hg3 (fun to L' F' hg ha => ?_) (fun hz=>Ret.some (.inr ⟨rfl,hz⟩))
                            refine Ret.bindE ha ?_
                            exact Ret.some (.inl ⟨_,rfl,hg⟩)
                        · refine Ret.some (.inl ⟨_,rfl,?_⟩)
                          rw [jV,hmvb,hq]
                          simpa using hg3
                      · rintro o (⟨x,rfl,hgx⟩ | ⟨rfl,hn⟩)
                        · exact Ret.some hgx
                        · refine Ret.some (.inr ⟨_,rfl,?_⟩)
                          rw [hmv0]
                          obtain ⟨r,hr'⟩:=Wb c party e (show i+1≤c.acts.length by omega)
                          rw [hr',←List.append_assoc]
                          exact yh hn
                  · rintro o (⟨x,rfl,hgx⟩ | ⟨x,rfl,hn⟩)
                    · exact Ret.some (.inl ⟨_,rfl,hgx⟩)
                    · exact Ret.some (.inr ⟨rfl,hn⟩)
                · refine Ret.some (.inr ⟨rfl,?_⟩)
                  rw [hmv0];exact yh hn
            · refine Ret.some (.inr ⟨rfl,?_⟩)
              unfold zh;exact yh hn
            · refine Ret.some (.inl ⟨_,rfl,?_⟩)
              have:zh c party e=(bif e.own then [-2] else []):=by
                unfold zh
                rw [decide_eq_true hd]
                simp
              rw [this];exact hg
        · rintro o (⟨⟨L',F',K'⟩,rfl,hg⟩ | ⟨rfl,hn⟩)
          · obtain ⟨h1,⟨r1,e1⟩,T,eT,hT,hch⟩:=J8 hc he hr (zh c party e) L L' [] K' (fun m hm=>hm) hinv hg.1
            simp only [List.nil_append] at eT
            subst eT
            simp only [Sum.elim_inl]
            refine Ret.bindE (xz (by simp;omega)) ?_
            rw [qI (by omega) (by omega)]
            refine Ret.some ⟨⟨by simp,?_,h1,hg.2,by show L'[0]?=some p;rw [e1];exact Jo hfst,?_,?_⟩,?_⟩
            · show (M++[K']).length≤L'.length
              rw [e1];simp;omega
            · show ∀ (j:Nat) (T:List MoveT) (e:PosT),(M++[K'])[j]?=some T→L'[j]?=some e→MvOk c party L' e (zh c party e) T
              intro j T e' hj he'
              by_cases hjm:j < M.length
              · rw [List.getElem?_append_left hjm] at hj
                have hjL:L[j]?=some e':=by
                  rw [e1,List.getElem?_append_left (by omega)] at he';exact he'
                rw [e1]
                exact (hmv j T e' hj hjL).app r1
              · have hj2:j=M.length:=by
                  have:=(List.getElem?_eq_some_iff.1 hj).1
                  simp at this;omega
                subst hj2
                rw [List.getElem?_append_right (Nat.le_refl _)] at hj
                simp at hj
                subst hj
                have:L'[M.length]?=some e:=by rw [e1];exact Jo heq
                rw [this] at he';cases he'
                exact hT
            · show ye 0 1 (M++[K'])=some L'.length
              rw [JI,hchk]
              simp only [Option.bind_some,Nat.zero_add]
              rw [if_pos hML];exact hch
            · show (1501 - ((M.length:Int)+1)).toNat < (1501 - (M.length:Int)).toNat
              omega
          · obtain ⟨L1,h1,h2⟩:=VE hc he hr (zh c party e) L [] (fun m hm=>hm) hinv hn
            exact Ret.some (.inr ⟨rfl,L1,h1,h2⟩)
      · have hge:=of_decide_eq_false hge
        exact Ret.some (.inl ⟨L,M,rfl,hinv,hfst,by omega,hmv,hchk⟩)
    · rintro o (⟨L,M,rfl,h⟩ | ⟨rfl,h⟩)
      · exact Ret.some (.inl ⟨L,M,rfl,h⟩)
      · exact Ret.some (.inr ⟨rfl,h⟩)
  · rintro o (⟨L,M,rfl,h⟩ | ⟨rfl,h⟩)
    · exact Ret.some (.inl ⟨rfl,rfl,h⟩)
    · exact Ret.some (.inr ⟨rfl,h⟩)
def zhz:ArenaT:={party:=0,positions:=[],moves:=[]}
theorem zeR {c:ContractT} (hc:c.Ok) {party:Int} {p:PosT} (h:yt c party p.state=false):jb c party p=some (zhz,1):=by
  unfold jb
  rw [ZW hc,h];rfl
theorem zeS (a b:StateT) (h1:a.holders.length < 4611686018427387904) (h2:a.used.length < 4611686018427387904) (h3:a.marks.length < 4611686018427387904):ZU a b=some (xD a b):=by
  unfold ZU xD
  simp only [Jm]
  by_cases e1:a.day=b.day
  · by_cases e2:a.holders.length=b.holders.length
    · by_cases e3:a.used.length=b.used.length
      · by_cases e4:a.marks.length=b.marks.length
        · simp only [e1,beq_self_eq_true,cond_true,e2,e3,e4,decide_true,Bool.not_true,Option.bind_some,cond_false,Bool.true_and]
          rw [←e2,←e3,←e4]
          rw [yA a.holders b.holders e2 h1 (fun i h1 h2=>by
            simp only [zO,List.getElem?_eq_getElem h1,List.getElem?_eq_getElem h2,Option.bind_some,zk])]
          rw [yA a.used b.used e3 h2 (fun i h1 h2=>by
            simp only [zO,List.getElem?_eq_getElem h1,List.getElem?_eq_getElem h2,Option.bind_some,zk])]
          rw [yA a.marks b.marks e4 h3 (fun i h1 h2=>by
            simp only [zO,List.getElem?_eq_getElem h1,List.getElem?_eq_getElem h2,Option.bind_some,zk];rfl)]
          cases (a.holders == b.holders)<;>cases (a.used == b.used)<;>cases (a.marks == b.marks)<;>rfl
        · have:(a.marks == b.marks)=false:=beq_eq_false_iff_ne.2 fun e=>e4 (by rw [e])
          simp only [e1,beq_self_eq_true,cond_true,e2,e3,e4,decide_true,decide_false,Bool.not_false,Option.bind_some,this,Bool.and_false]
      · have:(a.used == b.used)=false:=beq_eq_false_iff_ne.2 fun e=>e3 (by rw [e])
        simp only [e1,beq_self_eq_true,cond_true,e2,e3,decide_true,decide_false,cond_false,Option.bind_some,this,Bool.and_false,Bool.false_and]
    · have:(a.holders == b.holders)=false:=beq_eq_false_iff_ne.2 fun e=>e2 (by rw [e])
      simp only [e1,beq_self_eq_true,cond_true,e2,decide_false,cond_false,Option.bind_some,this,Bool.and_false,Bool.false_and]
  · simp only [beq_eq_false_iff_ne.2 e1,cond_false,Option.bind_some,cond_true,Bool.false_and]
theorem VF (a b:PosT) (h1:a.state.holders.length < 4611686018427387904) (h2:a.state.used.length < 4611686018427387904) (h3:a.state.marks.length < 4611686018427387904):xq a b=some (a == b):=by
  unfold xq
  rw [zeS _ _ h1 h2 h3]
  simp only [Option.bind_some,zk,Bool.cond_false_right]
  rfl
theorem ZY {α:Type} [BEq α] [LawfulBEq α]:∀ {L1 L2:List α},L1.Nodup→(∀ x∈L1,x∈L2)→L1.length≤L2.length
  | [],L2,_,_=>by simp
  | a::l,L2,h,hs=>by
    obtain ⟨ha,hl⟩:=List.nodup_cons.1 h
    have hm:=hs a List.mem_cons_self
    have ih:=ZY (L1:=l) (L2:=L2.erase a) hl fun x hx=>(List.mem_erase_of_ne (by rintro rfl;exact ha hx)).2 (hs x (List.mem_cons_of_mem _ hx))
    rw [List.length_erase_of_mem hm] at ih
    have:0 < L2.length:=List.length_pos_of_mem hm
    simp only [List.length_cons];omega
theorem FromOk.closed {c:ContractT} {party:Int} {p:PosT} {L:List PosT} {M:List (List MoveT)} (F:FromOk c party p L M) {q:PosT} (hq:q∈L) {m:Int} (hm:m∈zh c party q):target c q m∈L:=by
  obtain ⟨j,hj,e⟩:=List.getElem_of_mem hq
  have hjM:j < M.length:=by rw [F.len];exact hj
  have h:=F.mv j M[j] q (List.getElem?_eq_getElem hjM) (by rw [List.getElem?_eq_getElem hj,e])
  rw [←h.1] at hm
  obtain ⟨t,ht,rfl⟩:=List.mem_map.1 hm
  exact List.mem_of_getElem? (h.2 t ht).2
theorem FromOk.rch {c:ContractT} {party:Int} {p:PosT} {L:List PosT} {M:List (List MoveT)} (F:FromOk c party p L M) {q x:PosT} (hq:q∈L) (h:Rch c party q x):x∈L:=by
  induction h with
  | base=>exact hq
  | step _ hm ih=>exact F.closed ih hm
section
def at_ (l:List Int) (i:Nat):Int:=l[i]?.getD 0
theorem wF {l:List Int} {i:Nat} (h:i < l.length):l[i]?=some (at_ l i):=by unfold at_;rw [List.getElem?_eq_getElem h];rfl
theorem yY {l:List Int} {i:Nat} (h:i < l.length) (x:Int):at_ (l.set i x)=upd (at_ l) i x:=by
  funext j
  unfold at_ upd
  by_cases e:j=i
  · subst e;rw [if_pos rfl,List.getElem?_set_self h];rfl
  · rw [if_neg e,List.getElem?_set_ne (Ne.symm e)]
def cst (l:List Nat):List Int:=l.map fun x:Nat=>(x:Int)
theorem yC (l:List Nat):(cst l).length=l.length:=List.length_map _
theorem Jp (l m:List Nat):cst (l++m)=cst l++cst m:=List.map_append
def zbR (c:ContractT) (party:Int) (marks:List MarkT) (i:Nat):Bool:=match c.clauses[i]?,marks[i]? with
  | some k,some m=>k.final&&((m.status == 4)&&(m.bearer == party))
  | _,_=>false
def qn (c:ContractT) (s:StateT) (party:Int):Bool := !((List.range s.marks.length).all fun i=>!zbR c party s.marks i)
theorem VG (c:ContractT) (s:StateT) (party:Int) (hl:s.marks.length=c.clauses.length) (hs:s.marks.length < 4611686018427387904) :
    (forR (σ:=Unit) (ρ:=Unit) (s.marks.length:Int) (fun i1 s1=>(Option.bind (ze s.marks (i1:Int)) fun e1=>(Option.bind (Option.bind (ze c.clauses (i1:Int)) fun e2=>(bif e2.final then (bif (e1.status == 4) then some (e1.bearer == party) else some false) else some false)) fun v1=>(bif v1 then some (.inr ()) else some (.inl ()))))) ()) =
      some (bif qn c s party then .inr () else .inl ()):=by
  rw [kA (fun i=>!zbR c party s.marks i) hs (fun j hj=>by
    have hk:j < c.clauses.length:=by omega
    simp only [zO,List.getElem?_eq_getElem hj,List.getElem?_eq_getElem hk,Option.bind_some,zbR]
    cases (c.clauses[j].final)<;>cases (s.marks[j].status == 4)<;>cases (s.marks[j].bearer == party)<;>rfl)]
  unfold qn
  cases ((List.range s.marks.length).all fun i=>!zbR c party s.marks i)<;>rfl
theorem zhA {c:ContractT} (hc:c.Ok) {s:StateT} (hv:VS c s) (party:Int):QC c s party=some (qn c s party):=by
  have:=(hv.few hc).2.2
  unfold QC
  rw [VG c s party hv.lm (by omega)]
  cases qn c s party<;>rfl
theorem Ko {c:ContractT} (hc:c.Ok) {s:StateT} (hv:VS c s) {party:Int} (h0:0≤party) (h1:party < c.parties):xY c s party=some (qn c s party):=by
  have:=(hv.few hc).2.2
  unfold xY
  rw [decide_eq_false (show ¬ party < 0 by omega),decide_eq_false (show ¬ c.parties≤party by omega),yW c s hc,QM hv]
  simp only [cond_false,Option.bind_some,Bool.not_true]
  rw [VG c s party hv.lm (by omega)]
  cases qn c s party<;>rfl
def gm (c:ContractT) (a:ArenaT):Gm where
  n:=a.positions.length
  own i:=match a.positions[i]? with | some q=>q.own | none=>false
  lost i:=match a.positions[i]? with | some q=>qn c q.state a.party | none=>false
  succ i:=match a.moves[i]? with | some T=>T.map fun m=>m.to.toNat | none=>[]
structure ArOk (c:ContractT) (party:Int) (p:PosT) (a:ArenaT):Prop where
  p0:0≤party
  p1:party < c.parties
  pa:a.party=party
  F:FromOk c party p a.positions a.moves
section
variable {c:ContractT} {party:Int} {p:PosT} {a:ArenaT}
theorem ArOk.mv (A:ArOk c party p a) {i:Nat} (hi:i < a.positions.length):∃ T,a.moves[i]?=some T∧MvOk c party a.positions a.positions[i] (zh c party a.positions[i]) T:=by
  have h:i < a.moves.length:=by rw [A.F.len];exact hi
  exact ⟨a.moves[i],List.getElem?_eq_getElem h,A.F.mv i _ _ (List.getElem?_eq_getElem h) (List.getElem?_eq_getElem hi)⟩
theorem ArOk.succ (A:ArOk c party p a) {i:Nat} (hi:i < a.positions.length) {T:List MoveT} (hT:a.moves[i]?=some T):(gm c a).succ i=T.map fun m=>m.to.toNat:=by
  simp only [gm,hT]
theorem ArOk.to (A:ArOk c party p a) {i:Nat} (hi:i < a.positions.length) {T:List MoveT} (hT:a.moves[i]?=some T) {m:MoveT} (hm:m∈T):0≤m.to∧m.to < a.positions.length:=by
  obtain ⟨T',h1,_,h3⟩:=A.mv hi
  rw [hT] at h1;cases h1
  obtain ⟨h4,h5⟩:=h3 m hm
  have:=(List.getElem?_eq_some_iff.1 h5).1
  omega
theorem ArOk.len (hc:c.Ok) (A:ArOk c party p a) {i:Nat} (hi:i < a.positions.length) {T:List MoveT} (hT:a.moves[i]?=some T):T.length≤62:=by
  obtain ⟨T',h1,h2,_⟩:=A.mv hi
  rw [hT] at h1;cases h1
  have:=wm hc (party:=party) (A.F.inv.vs _ (List.getElem_mem hi))
  rw [←List.length_map (f:=fun x:MoveT=>x.step),h2];exact this
theorem ArOk.closed (A:ArOk c party p a):∀ i,i < (gm c a).n→∀ t∈(gm c a).succ i,t < (gm c a).n:=fun i hi t ht=>by
  obtain ⟨T,h1,_⟩:=A.mv hi
  rw [A.succ hi h1] at ht
  obtain ⟨m,hm,rfl⟩:=List.mem_map.1 ht
  have:=A.to hi h1 hm
  show m.to.toNat < a.positions.length
  omega
theorem ArOk.slen (hc:c.Ok) (A:ArOk c party p a) (i:Nat) (hi:i < (gm c a).n):((gm c a).succ i).length≤62:=by
  obtain ⟨T,h1,_⟩:=A.mv hi
  rw [A.succ hi h1,List.length_map];exact A.len hc hi h1
theorem Kp (hc:c.Ok) (A:ArOk c party p a):xp c a=some true:=by
  have h0:=A.p0
  have h1:=A.p1
  have hlen:=A.F.inv.len
  refine Ret.eq ?_
  unfold xp
  rw [A.pa]
  refine Ret.bindE (v:=false) (by rw [decide_eq_false (show ¬ party < 0 by omega),decide_eq_false (show ¬ c.parties≤party by omega),A.F.len];simp) ?_
  refine Ret.ite (fun h=>by cases h) (fun _ => ?_)
  refine Ret.bind (P:=fun o:Unit ⊕ Unit=>o=.inl ()) (Ret.forL (fun _ _=>True) (by omega) trivial (fun i s hi _ => ?_) (fun _ _=>rfl)) ?_
  · obtain ⟨T,hT,hM⟩:=A.mv hi
    have hTl:=A.len hc hi hT
    refine Ret.bindE (zx (List.getElem?_eq_getElem hi)) ?_
    refine Ret.bindE (zx hT) ?_
    refine Ret.bind (P:=fun o:Unit ⊕ Unit=>o=.inl ()) (Ret.forL (fun _ _=>True) (by omega) trivial (fun k s hk _ => ?_) (fun _ _=>rfl)) ?_
    · have:=A.to hi hT (List.getElem_mem hk)
      refine Ret.bindE (zx (List.getElem?_eq_getElem hk)) ?_
      refine Ret.bindE (v:=false) (by rw [decide_eq_false (show ¬ T[k].to < 0 by omega),decide_eq_false (show ¬ (a.positions.length:Int)≤T[k].to by omega)];rfl) ?_
      exact Ret.some trivial
    · rintro _ rfl
      refine Ret.bindE (by rw [yW c _ hc,QM (A.F.inv.vs _ (List.getElem_mem hi))]) ?_
      exact Ret.some trivial
  · rintro _ rfl
    exact Ret.some rfl
structure L1 (G:Gm) (i k:Nat) (bef:List (List Int)):Prop where
  len:bef.length=G.n
  row:∀ t,t < G.n→∃ l:List Nat,bef[t]?=some (cst l)∧l.length≤62*i+k∧∀ x,l.count x=if x < i then (G.succ x).count t else if x=i then ((G.succ i).take k).count t else 0
theorem L1.next {G:Gm} {i k:Nat} {bef:List (List Int)} (h:L1 G i k bef) (hk:k=(G.succ i).length) (hl:k≤62):L1 G (i+1) 0 bef:=by
  refine ⟨h.len,fun t ht => ?_⟩
  obtain ⟨l,h1,h2,h3⟩:=h.row t ht
  refine ⟨l,h1,by omega,fun x => ?_⟩
  rw [h3 x]
  by_cases e:x < i
  · rw [if_pos e,if_pos (by omega)]
  · rw [if_neg e]
    by_cases e2:x=i
    · subst e2;rw [if_pos rfl,if_pos (by omega),hk,List.take_length]
    · rw [if_neg e2,if_neg (by omega)]
      split<;>simp
theorem L1.step {G:Gm} {i k:Nat} {bef:List (List Int)} (h:L1 G i k bef) (hn:G.n≤1500) (hi:i < G.n) (hk:k≤62) {to:Nat} (ht:(G.succ i)[k]?=some to) (hto:to < G.n):Ret (wd bef G.n (to:Int) (i:Int)) (L1 G i (k+1)):=by
  obtain ⟨l,h1,h2,h3⟩:=h.row to hto
  have e:wd bef G.n (to:Int) (i:Int)=some (bef.set to (cst (l++[i]))):=by
    unfold wd
    rw [if_pos ⟨by omega,by omega,by omega⟩,Int.toNat_natCast,h1]
    simp only
    rw [if_pos (by rw [yC];omega),Jp];rfl
  refine ⟨_,e,by rw [List.length_set];exact h.len,fun t ht2 => ?_⟩
  have htk:(G.succ i).take (k+1)=(G.succ i).take k++[to]:=by
    obtain ⟨h5,h6⟩:=List.getElem?_eq_some_iff.1 ht
    rw [List.take_succ_eq_append_getElem h5,h6]
  by_cases e2:t=to
  · subst e2
    refine ⟨l++[i],List.getElem?_set_self (by rw [h.len];exact ht2),by simp;omega,fun x => ?_⟩
    rw [List.count_append,h3 x,htk,List.count_append]
    by_cases a1:x < i
    · rw [if_pos a1,if_pos a1,List.count_cons_of_ne (by omega)];simp
    · rw [if_neg a1,if_neg a1]
      by_cases a2:x=i
      · subst a2;rw [if_pos rfl,if_pos rfl];simp
      · rw [if_neg a2,if_neg a2,List.count_cons_of_ne (fun h=>a2 h.symm)];simp
  · obtain ⟨l2,b1,b2,b3⟩:=h.row t ht2
    refine ⟨l2,by rw [List.getElem?_set_ne (Ne.symm e2)];exact b1,by omega,fun x => ?_⟩
    rw [b3 x,htk,List.count_append,List.count_cons_of_ne (Ne.symm e2)];simp
structure L2 (G:Gm) (i:Nat) (s:List Int×List Int×List (List Int)×List Int):Prop where
  lr:s.1.length=G.n
  lo:s.2.1.length=G.n
  bef:L1 G i 0 s.2.2.1
  r:∀ j,j < i→at_ s.1 j=if G.lost j=true then 0 else -1
  o:∀ j,j < i→at_ s.2.1 j=((G.succ j).length:Int)
  k:s.2.2.2=cst ((List.range i).filter G.lost)
theorem Jq {b n:Nat} (h:n≤1500) (hb:b≤1000):mkN b (n:Int)=some n:=by
  unfold mkN
  have:n*b≤1500*1000:=Nat.mul_le_mul h hb
  rw [if_pos ⟨by omega,by omega,by push_cast;omega⟩,Int.toNat_natCast]
end
end
section
section
variable {c:ContractT} {party:Int} {p:PosT} {a:ArenaT}
theorem Kq {x:Int} {l:List Int} (nx:Int) (h:l.length≤4000):vX x l nx=some (l++[x]):=by
  unfold vX
  rw [xz (by simp;omega)];rfl
theorem Wc {x:Nat} {v:Int} {r l:List Int} {n:Nat} (nx:Int) (hx:x < n) (hr:r.length=n) (h:l.length≤4000):vY (x:Int) v r n l nx=some (l++[(x:Int)],r.set x v):=by
  unfold vY
  rw [zU hx]
  simp only [Option.bind_some]
  rw [wF (by omega),Kq nx h];rfl
def Bnd (G:Gm) (r:Nat→Int) (m:Nat):Prop:=∀ i,i < G.n→r i≤m
theorem zeT (hc:c.Ok) (A:ArOk c party p a) {r o:List Int} {P Q:List Nat} {u x:Nat} {cn:Nat→Nat} (nx:Int) (hr:r.length=(gm c a).n) (ho:o.length=(gm c a).n)
    (h:EInv (gm c a) (at_ r) (at_ o) P u Q cn) (hb:Bnd (gm c a) (at_ r) (P++u::Q).length) (hx:x < (gm c a).n) (hcn:cn x < ((gm c a).succ x).count u) :
    Ret (Zd (x:Int) (u:Int) o (gm c a).n r (gm c a).n a (cst (P++u::Q)) nx) (fun z=>z.1.length=(gm c a).n∧z.2.1.length=(gm c a).n∧∃ Q',z.2.2=cst (P++u::Q')∧EInv (gm c a) (at_ z.2.1) (at_ z.1) P u Q' (upd cn x (cn x+1))∧Bnd (gm c a) (at_ z.2.1) (P++u::Q').length):=by
  have hn:(gm c a).n≤1500:=A.F.inv.len
  have hroom:=h.room hx hcn
  have hop:=h.core.op x hx
  have hsl:=A.slen hc x hx
  have hcp:(((gm c a).succ x).countP (wS P))≤((gm c a).succ x).length:=List.countP_le_length
  have hKn:(P++u::Q).length≤(gm c a).n:=by
    have:=ZY (L2:=List.range (gm c a).n) h.core.nd (fun y hy=>List.mem_range.2 (h.core.lt y hy))
    rwa [List.length_range] at this
  obtain ⟨hu,hun,hru,_,_⟩:=h.core.split
  have hgu:=h.core.ge u hun
  have hgx:=h.core.ge x hx
  have hbu:=hb u hun
  have hw1:IntKind.i64.wrap (at_ o x - 1)=at_ o x - 1:=qI (by omega) (by omega)
  have hw2:IntKind.i64.wrap (at_ r u+1)=at_ r u+1:=qI (by omega) (by omega)
  have hso:at_ (o.set x (at_ o x - 1))=upd (at_ o) x (at_ o x - 1):=yY (by omega) _
  have hget:(o.set x (at_ o x - 1))[x]?=some (at_ o x - 1):=List.getElem?_set_self (by omega)
  have hown:(gm c a).own x=(a.positions[x]'(hx)).own:=by
    show (match a.positions[x]? with | some q=>q.own | none=>false)=_
    rw [List.getElem?_eq_getElem (show x < a.positions.length from hx)]
    rfl
  have hidx:ze a.positions (x:Int)=some (a.positions[x]'hx):=zx (List.getElem?_eq_getElem (show x < a.positions.length from hx))
  unfold Zd
  refine Ret.bindE (zU hx) ?_
  refine Ret.bindE (wF (by omega)) ?_
  rw [hw1]
  by_cases e1:at_ r x = -1
  · have e1b:(at_ r x == -1)=true:=by rw [e1];rfl
    by_cases e2:(gm c a).own x=false∨at_ o x - 1=0
    · refine Ret.bindE (v:=true) ?_ ?_
      · rw [zU hx]
        simp only [Option.bind_some]
        rw [wF (by omega:x < r.length)]
        simp only [Option.bind_some,e1b,cond_true,hidx]
        rw [←hown]
        rcases e2 with e2 | e2
        · rw [e2];rfl
        · rw [hget]
          simp only [Option.bind_some,e2]
          cases (gm c a).own x<;>rfl
      · refine Ret.ite (fun _ => ?_) (fun h=>by cases h)
        refine Ret.bindE (zU hun) ?_
        refine Ret.bindE (wF (by omega)) ?_
        rw [hw2]
        refine Ret.bindE (Wc nx hx hr (by rw [yC];omega)) ?_
        refine Ret.some ⟨by simp [ho],by simp [hr],Q++[x],?_,?_,?_⟩
        · rw [show P++u::(Q++[x])=(P++u::Q)++[x] by simp];exact (Jp (P++u::Q) [x]).symm
        · rw [hso,yY (by omega)]
          exact h.settle A.closed hx hcn e1 e2
        · intro i hi
          simp only
          rw [yY (by omega)]
          have:=hb i hi
          unfold upd
          simp only [List.length_append,List.length_cons,List.length_nil] at this hbu ⊢
          split<;>omega
    · refine Ret.bindE (v:=false) ?_ ?_
      · rw [zU hx]
        simp only [Option.bind_some]
        rw [wF (by omega:x < r.length)]
        simp only [Option.bind_some,e1b,cond_true,hidx]
        rw [←hown]
        have e3:(gm c a).own x=true:=by
          cases hq:(gm c a).own x with
          | true=>rfl
          | false=>exact absurd (.inl hq) e2
        rw [e3,hget]
        simp only [Option.bind_some,cond_true]
        rw [beq_eq_false_iff_ne.2 (fun h=>e2 (.inr h))]
      · refine Ret.ite (fun h=>by cases h) (fun _ => ?_)
        refine Ret.some ⟨by simp [ho],hr,Q,rfl,?_,hb⟩
        rw [hso]
        exact h.skip hx hcn (.inr ⟨by cases hq:(gm c a).own x with
          | true=>rfl
          | false=>exact absurd (.inl hq) e2,fun h=>e2 (.inr h)⟩)
  · have e1b:(at_ r x == -1)=false:=beq_eq_false_iff_ne.2 e1
    refine Ret.bindE (v:=false) ?_ ?_
    · rw [zU hx]
      simp only [Option.bind_some]
      rw [wF (by omega:x < r.length)]
      simp only [Option.bind_some,e1b,cond_false]
    · refine Ret.ite (fun h=>by cases h) (fun _ => ?_)
      refine Ret.some ⟨by simp [ho],hr,Q,rfl,?_,hb⟩
      rw [hso]
      exact h.skip hx hcn (.inl e1)
theorem zf8 {l:List Nat} {k:Nat} (hl:l.length≤4000) (hk:k≤l.length):xP (cst l) (k:Int)=some (match l[k]? with | some u=>((u:Int),true,(k:Int)+1) | none=>(0,false,(k:Int))):=by
  unfold xP
  rw [yC]
  by_cases e:k=l.length
  · rw [e,List.getElem?_eq_none (Nat.le_refl _)];simp
  · have h:k < l.length:=by omega
    have w1:IntKind.i64.wrap ((k:Int)+1)=(k:Int)+1:=qI (by omega) (by omega)
    have w2:IntKind.i64.wrap ((k:Int)+1 - 1)=(k:Int):=by rw [show (k:Int)+1 - 1=(k:Int) by omega];exact qI (by omega) (by omega)
    rw [beq_eq_false_iff_ne.2 (show (k:Int)≠(l.length:Int) by omega),w1,w2,List.getElem?_eq_getElem h]
    simp only [cond_false]
    rw [zx (l:=cst l) (i:=k) (e:=(l[k]:Int)) (by unfold cst;rw [List.getElem?_map,List.getElem?_eq_getElem h];rfl)]
    rfl
end
end
section
section
variable {c:ContractT} {party:Int} {p:PosT} {a:ArenaT}
def xb (G:Gm) (i:Nat):Bool:=G.own i&&(!(G.lost i)&&(G.succ i).isEmpty)
def r2 (G:Gm) (i j:Nat):Int:=if G.lost j=true then 0 else if xb G j=true∧j < i then 1 else -1
def K2 (G:Gm) (i:Nat):List Nat:=(List.range G.n).filter G.lost++(List.range i).filter (xb G)
structure L3 (G:Gm) (i:Nat) (s:List Int×List Int):Prop where
  lr:s.1.length=G.n
  r:∀ j,j < G.n→at_ s.1 j=r2 G i j
  k:s.2=cst (K2 G i)
theorem zhB (G:Gm) (i:Nat):(K2 G i).length≤G.n+i:=by
  unfold K2
  rw [List.length_append]
  have h1:=List.length_filter_le G.lost (List.range G.n)
  have h2:=List.length_filter_le (xb G) (List.range i)
  rw [List.length_range] at h1 h2
  omega
theorem zdE {G:Gm} {r o:Nat→Int} (hr:∀ j,j < G.n→r j=r2 G G.n j) (ho:∀ j,j < G.n→o j=((G.succ j).length:Int)):BInv G r o [] (K2 G G.n)∧Bnd G r (K2 G G.n).length:=by
  have tl:∀ j,xb G j=true→G.own j=true∧G.lost j=false∧G.succ j=[]:=fun j h=>by
    simpa [xb,Bool.and_eq_true,List.isEmpty_iff] using h
  have rl:∀ j,j < G.n→G.lost j=true→r j=0:=fun j hj h=>by rw [hr j hj];unfold r2;rw [if_pos h]
  have rt:∀ j,j < G.n→xb G j=true→r j=1:=fun j hj h=>by
    rw [hr j hj];unfold r2;rw [if_neg (by rw [(tl j h).2.1];simp),if_pos ⟨h,hj⟩]
  have rn:∀ j,j < G.n→G.lost j=false→xb G j=false→r j = -1:=fun j hj h h2=>by
    rw [hr j hj];unfold r2;rw [if_neg (by rw [h];simp),if_neg (by rw [h2];simp)]
  have three:∀ j,j < G.n→(G.lost j=true∧r j=0)∨(xb G j=true∧G.lost j=false∧r j=1)∨(G.lost j=false∧xb G j=false∧r j = -1):=fun j hj=>by
    cases h:G.lost j with
    | true=>exact .inl ⟨rfl,rl j hj h⟩
    | false=>cases h2:xb G j with
      | true=>exact .inr (.inl ⟨rfl,rfl,rt j hj h2⟩)
      | false=>exact .inr (.inr ⟨rfl,rfl,rn j hj h h2⟩)
  have hm:∀ j,j∈K2 G G.n↔j < G.n∧(G.lost j=true∨xb G j=true):=fun j=>by
    unfold K2
    rw [List.mem_append,List.mem_filter,List.mem_filter,List.mem_range]
    constructor
    · rintro (⟨h1,h2⟩ | ⟨h1,h2⟩)
      · exact ⟨h1,.inl h2⟩
      · exact ⟨h1,.inr h2⟩
    · rintro ⟨h1,h2 | h2⟩
      · exact .inl ⟨h1,h2⟩
      · exact .inr ⟨h1,h2⟩
  have hle:∀ x∈K2 G G.n,r x≤1∧0≤r x:=fun x hx=>by
    obtain ⟨h1,h2⟩:=(hm x).1 hx
    rcases three x h1 with ⟨_,h⟩ | ⟨_,_,h⟩ | ⟨h3,h4,h⟩
    · omega
    · omega
    · rw [h3,h4] at h2;simp at h2
  refine ⟨⟨⟨?_,fun x hx=>((hm x).1 hx).1,fun i hi => ?_,fun i hi => ?_,?_,fun i hi => ?_,fun i hi => ?_,fun i hi h1 h2 h3 => ?_,fun i hi h1 h2 h3 => ?_,fun i hi h1 h2 h3 => ?_,fun i hi h1 h2 h3=>⟨fun t ht h=>(by cases h),rfl⟩⟩,fun q Q' hq x hx => ?_⟩,fun i hi => ?_⟩
  · rw [List.nil_append]
    unfold K2
    refine List.nodup_append.2 ⟨List.nodup_range.sublist List.filter_sublist,List.nodup_range.sublist List.filter_sublist,fun x hx y hy e => ?_⟩
    subst e
    have h1:=(List.mem_filter.1 hx).2
    have h2:=(tl x (List.mem_filter.1 hy).2).2.1
    rw [h1] at h2;cases h2
  · rw [List.nil_append,hm i]
    rcases three i hi with ⟨h1,h⟩ | ⟨h1,_,h⟩ | ⟨h3,h4,h⟩
    · rw [h];simp [hi,h1]
    · rw [h];simp [hi,h1]
    · rw [h];simp [h3,h4]
  · rcases three i hi with ⟨_,h⟩ | ⟨_,_,h⟩ | ⟨_,_,h⟩<;>omega
  · rw [List.nil_append]
    unfold K2
    refine List.pairwise_append.2 ⟨?_,?_,fun x hx y hy => ?_⟩
    · refine List.pairwise_of_forall_mem_list fun x hx y hy => ?_
      have h1:=(List.mem_filter.1 hx);have h2:=(List.mem_filter.1 hy)
      rw [rl x (List.mem_range.1 h1.1) h1.2,rl y (List.mem_range.1 h2.1) h2.2];omega
    · refine List.pairwise_of_forall_mem_list fun x hx y hy => ?_
      have h1:=(List.mem_filter.1 hx);have h2:=(List.mem_filter.1 hy)
      rw [rt x (List.mem_range.1 h1.1) h1.2,rt y (List.mem_range.1 h2.1) h2.2];omega
    · have h1:=(List.mem_filter.1 hx);have h2:=(List.mem_filter.1 hy)
      rw [rl x (List.mem_range.1 h1.1) h1.2,rt y (List.mem_range.1 h2.1) h2.2];omega
  · rw [ho i hi]
    have:(G.succ i).countP (wS [])=(G.succ i).length:=List.countP_eq_length.2 fun x _=>by simp [wS]
    rw [this];simp
  · rcases three i hi with ⟨h1,h⟩ | ⟨_,h1,h⟩ | ⟨h1,_,h⟩<;>rw [h,h1]<;>simp
  · rcases three i hi with ⟨h4,h⟩ | ⟨h4,_,h⟩ | ⟨_,_,h⟩
    · rw [h2] at h4;cases h4
    · have h5:=(tl i h4).2.2
      rw [ho i hi,h5,h]
      exact ⟨rfl,fun t ht=>(by cases ht),.inl ⟨rfl,rfl⟩⟩
    · exact absurd h h3
  · rw [ho i hi]
    intro h5
    have h6:G.succ i=[]:=List.eq_nil_of_length_eq_zero (by omega)
    have h7:=rt i hi (by simp [xb,h1,h2,h6])
    omega
  · rcases three i hi with ⟨h4,h⟩ | ⟨h4,_,h⟩ | ⟨_,_,h⟩
    · rw [h2] at h4;cases h4
    · have h5:=(tl i h4).1;rw [h1] at h5;cases h5
    · exact absurd h h3
  · rw [List.nil_append] at hx
    have h1:=(hle x hx).1
    have h2:=(hle q (by rw [hq];simp)).2
    omega
  · rcases three i hi with ⟨_,h⟩ | ⟨h1,_,h⟩ | ⟨_,_,h⟩
    · omega
    · have:0 < (K2 G G.n).length:=List.length_pos_of_mem ((hm i).2 ⟨hi,.inr h1⟩)
      omega
    · omega
structure QI (G:Gm) (bef:List (List Int)) (s:Int×Bool×List Int×List Int×List Int×Int):Prop where
  lr:s.2.2.1.length=G.n
  lo:s.2.2.2.1.length=G.n
  inv:∃ P Q,BInv G (at_ s.2.2.1) (at_ s.2.2.2.1) P Q∧Bnd G (at_ s.2.2.1) (P++Q).length∧s.2.2.2.2.1=cst (P++Q)∧((s.2.1=false∧Q=[]∧s.2.2.2.2.2=(P.length:Int))∨(s.2.1=true∧∃ u Q',Q=u::Q'∧s.1=(u:Int)∧s.2.2.2.2.2=(P.length:Int)+1))
theorem Wd {l:List Nat} {k:Nat} (hk:k < l.length) (x:Nat):(l.take (k+1)).count x=upd (fun y=>(l.take k).count y) l[k] ((l.take k).count l[k]+1) x:=by
  rw [List.take_succ_eq_append_getElem hk,List.count_append]
  unfold upd
  by_cases e:x=l[k]
  · rw [if_pos e,e];simp
  · rw [if_neg e,List.count_cons_of_ne (fun h=>e h.symm)];simp
theorem zdF {l:List Nat} {k:Nat} (hk:k < l.length):(fun y=>(l.take (k+1)).count y)=upd (fun y=>(l.take k).count y) l[k] ((l.take k).count l[k]+1):=funext fun x=>Wd hk x
theorem zdG {G:Gm} {bef:List (List Int)} {P Q:List Nat} {r o:List Int} (hn:G.n≤1500) (hr:r.length=G.n) (ho:o.length=G.n) (h:BInv G (at_ r) (at_ o) P Q) (hb:Bnd G (at_ r) (P++Q).length) :
    ∃ z:Int×Bool×Int,xP (cst (P++Q)) (P.length:Int)=some z∧QI G bef (z.1,z.2.1,r,o,cst (P++Q),z.2.2)∧((z.2.1=false∧z.2.2=(P.length:Int))∨(z.2.1=true∧z.2.2=(P.length:Int)+1))∧P.length≤G.n:=by
  have hK:(P++Q).length≤G.n:=by
    have:=ZY (L2:=List.range G.n) h.core.nd (fun y hy=>List.mem_range.2 (h.core.lt y hy))
    rwa [List.length_range] at this
  refine ⟨_,zf8 (by omega) (by simp),?_⟩
  cases Q with
  | nil=>
    rw [List.append_nil,List.getElem?_eq_none (Nat.le_refl _)]
    exact ⟨⟨hr,ho,P,[],h,hb,by rw [List.append_nil],.inl ⟨rfl,rfl,rfl⟩⟩,.inl ⟨rfl,rfl⟩,by simpa using hK⟩
  | cons u Q'=>
    rw [List.getElem?_append_right (Nat.le_refl _),Nat.sub_self]
    exact ⟨⟨hr,ho,P,u::Q',h,hb,rfl,.inr ⟨rfl,u,Q',rfl,rfl,rfl⟩⟩,.inr ⟨rfl,rfl⟩,by rw [List.length_append] at hK;omega⟩
theorem VH (hc:c.Ok) (A:ArOk c party p a):Ret (wi c a) (fun r=>r.length=a.positions.length∧Qw (gm c a) (at_ r)∧∀ i,i < a.positions.length→at_ r i≤1500):=by
  have hn:a.positions.length≤1500:=A.F.inv.len
  have hgn:(gm c a).n=a.positions.length:=rfl
  unfold wi
  refine Ret.bindE (Kp hc A) ?_
  refine Ret.ite (fun _ => ?_) (fun h=>by cases h)
  refine Ret.bindE (Jq hn (by omega)) ?_
  refine Ret.bindE (Jq hn (by omega)) ?_
  refine Ret.bindE (Jq hn (by omega)) ?_
  refine Ret.bind (P:=fun o:(List Int×List Int×List (List Int)×List Int) ⊕ Unit=>∃ s,o=.inl s∧L2 (gm c a) a.positions.length s) (Ret.forL (L2 (gm c a)) (by omega) ?_ (fun i s hi hs => ?_) (fun s h=>⟨s,rfl,h⟩)) ?_
  · refine ⟨by simp [hgn],by simp [hgn],⟨by simp [hgn],fun t ht=>⟨[],?_,by simp,fun x => ?_⟩⟩,fun j hj=>by omega,fun j hj=>by omega,rfl⟩
    · rw [List.getElem?_replicate,if_pos (by rw [←hgn];exact ht)];rfl
    · simp
  · obtain ⟨R,O,B,K⟩:=s
    obtain ⟨hlr,hlo,hbef,hr,ho,hk⟩:=hs
    simp only at hlr hlo hbef hr ho hk ⊢
    obtain ⟨T,hT,hM⟩:=A.mv hi
    have hTl:=A.len hc hi hT
    have hsucc:=A.succ hi hT
    have hlostE:(gm c a).lost i=qn c a.positions[i].state a.party:=by
      show (match a.positions[i]? with | some q=>qn c q.state a.party | none=>false)=_
      rw [List.getElem?_eq_getElem hi]
    refine Ret.bind (P:=fun v=>L2 (gm c a) (i+1) v) ?_ (fun v hv=>Ret.some hv)
    refine Ret.bindE (zx (List.getElem?_eq_getElem hi)) ?_
    refine Ret.bindE (zx hT) ?_
    refine Ret.bindE (zU hi) ?_
    refine Ret.bindE (wF (by omega)) ?_
    refine Ret.bindE (zU hi) ?_
    refine Ret.bindE (wF (by omega)) ?_
    refine Ret.bindE (zx hT) ?_
    refine Ret.bind (P:=fun o:List (List Int) ⊕ Unit=>∃ b,o=.inl b∧L1 (gm c a) i T.length b) (Ret.forL (fun k b=>L1 (gm c a) i k b) (by omega) hbef (fun k b hk2 hb => ?_) (fun b h=>⟨b,rfl,h⟩)) ?_
    · have hto:=A.to hi hT (List.getElem_mem hk2)
      refine Ret.bindE (zx (List.getElem?_eq_getElem hk2)) ?_
      have h1:(gm c a).succ i=T.map fun m=>m.to.toNat:=hsucc
      have h2:=hb.step (G:=gm c a) hn hi (by omega) (to:=T[k].to.toNat) (by rw [h1,List.getElem?_map,List.getElem?_eq_getElem hk2];rfl) (by rw [hgn];omega)
      rw [Int.toNat_of_nonneg hto.1] at h2
      exact Ret.bind h2 (fun v hv=>Ret.some hv)
    · rintro _ ⟨b,rfl,hb⟩
      simp only [Sum.elim_inl]
      have hb':=hb.next (by rw [hsucc,List.length_map]) hTl
      have hR1:at_ (R.set i (-1))=upd (at_ R) i (-1):=yY (by omega) _
      have hO1:at_ (O.set i (T.length:Int))=upd (at_ O) i (T.length:Int):=yY (by omega) _
      have hoo:∀ j,j < i+1→upd (at_ O) i (T.length:Int) j=(((gm c a).succ j).length:Int):=fun j hj=>by
        unfold upd
        by_cases e:j=i
        · rw [if_pos e,e,hsucc,List.length_map]
        · rw [if_neg e];exact ho j (by omega)
      have hrange:(List.range (i+1)).filter (gm c a).lost=(List.range i).filter (gm c a).lost++(bif (gm c a).lost i then [i] else []):=by
        rw [List.range_succ,List.filter_append]
        cases h:(gm c a).lost i<;>simp [h]
      refine Ret.bindE (zhA hc (A.F.inv.vs _ (List.getElem_mem hi)) a.party) ?_
      refine Ret.ite (fun hl => ?_) (fun hl => ?_)
      · rw [←hlostE] at hl
        refine Ret.bindE (zU hi) ?_
        refine Ret.bindE (List.getElem?_set_self (by omega)) ?_
        have hK:K.length≤1500:=by
          rw [hk,yC]
          have:=List.length_filter_le (gm c a).lost (List.range i)
          rw [List.length_range] at this;omega
        refine Ret.bindE (Kq 0 (by omega)) ?_
        refine Ret.some ⟨by simp [hlr],by simp [hlo],hb',fun j hj => ?_,fun j hj => ?_,?_⟩
        · simp only
          rw [List.set_set,yY (by omega)]
          unfold upd
          by_cases e:j=i
          · rw [if_pos e,e,if_pos hl]
          · rw [if_neg e];exact hr j (by omega)
        · simp only;rw [hO1];exact hoo j hj
        · simp only;rw [hk,hrange,hl,cond_true,Jp];rfl
      · rw [←hlostE] at hl
        refine Ret.some ⟨by simp [hlr],by simp [hlo],hb',fun j hj => ?_,fun j hj => ?_,?_⟩
        · simp only
          rw [hR1]
          unfold upd
          by_cases e:j=i
          · rw [if_pos e,e,if_neg (by rw [hl];simp)]
          · rw [if_neg e];exact hr j (by omega)
        · simp only;rw [hO1];exact hoo j hj
        · simp only;rw [hk,hrange,hl,cond_false,List.append_nil]
  · rintro _ ⟨⟨R,O,B,K⟩,rfl,hlr,hlo,hbef,hr,ho,hk⟩
    simp only [Sum.elim_inl] at hlr hlo hbef hr ho hk ⊢
    refine Ret.bind (P:=fun o:(List Int×List Int) ⊕ Unit=>∃ s,o=.inl s∧L3 (gm c a) a.positions.length s) (Ret.forL (L3 (gm c a)) (by omega) ?_ (fun i s hi hs => ?_) (fun s h=>⟨s,rfl,h⟩)) ?_
    · refine ⟨hlr,fun j hj => ?_,?_⟩
      · rw [hr j hj];unfold r2
        split
        · rfl
        · rw [if_neg (by omega)]
      · simp only;rw [hk];unfold K2;rw [List.range_zero,List.filter_nil,List.append_nil];rfl
    · obtain ⟨R1,K1⟩:=s
      obtain ⟨h1,h2,h3⟩:=hs
      simp only at h1 h2 h3 ⊢
      have hown:(gm c a).own i=a.positions[i].own:=by
        show (match a.positions[i]? with | some q=>q.own | none=>false)=_
        rw [List.getElem?_eq_getElem hi]
      have hsame:xb (gm c a) i=false→L3 (gm c a) (i+1) (R1,K1):=fun ht=>by
        refine ⟨h1,fun j hj => ?_,?_⟩
        · simp only;rw [h2 j hj];unfold r2
          split
          · rfl
          · by_cases e:j=i
            · subst e;rw [if_neg (by rw [ht];simp),if_neg (by rw [ht];simp)]
            · by_cases e2:xb (gm c a) j=true∧j < i
              · rw [if_pos e2,if_pos ⟨e2.1,by omega⟩]
              · rw [if_neg e2,if_neg (fun h=>e2 ⟨h.1,by have:=h.2;omega⟩)]
        · simp only;rw [h3];unfold K2;rw [List.range_succ,List.filter_append];simp [ht]
      refine Ret.bind (P:=fun v=>L3 (gm c a) (i+1) v) ?_ (fun v hv=>Ret.some hv)
      refine Ret.bindE (zx (List.getElem?_eq_getElem hi)) ?_
      have hv3:(bif a.positions[i].own then (Option.bind (zm a.positions.length (i:Int)) fun k7=>(Option.bind (O[k7]?) fun e9=>(bif (e9 == 0) then (Option.bind (zm a.positions.length (i:Int)) fun k8=>(Option.bind (R1[k8]?) fun e10=>some (e10 == (-1)))) else some false))) else some false)=some (xb (gm c a) i):=by
        rw [zU hi]
        simp only [Option.bind_some]
        rw [wF (by omega:i < O.length),wF (by omega:i < R1.length)]
        simp only [Option.bind_some]
        rw [ho i hi,h2 i hi,←hown]
        unfold xb r2
        cases e1:(gm c a).own i with
        | false=>rfl
        | true=>
          cases e2:(gm c a).succ i with
          | cons x l=>
            rw [beq_eq_false_iff_ne.2 (by simp;omega)];simp
          | nil=>
            cases e3:(gm c a).lost i with
            | true=>rfl
            | false=>simp
      refine Ret.bindE hv3 ?_
      refine Ret.ite (fun ht => ?_) (fun ht=>Ret.some (hsame ht))
      have hK1:K1.length≤4000:=by
        rw [h3,yC]
        have:=zhB (gm c a) i
        omega
      refine Ret.bindE (Wc 0 hi h1 hK1) ?_
      refine Ret.some ⟨by simp [h1],fun j hj => ?_,?_⟩
      · simp only
        rw [yY (by omega)]
        unfold upd
        by_cases e:j=i
        · subst e
          have h4:(gm c a).lost j=false:=by
            simp only [xb,Bool.and_eq_true,Bool.not_eq_true'] at ht;exact ht.2.1
          rw [if_pos rfl];unfold r2;rw [if_neg (by rw [h4];simp),if_pos ⟨ht,by omega⟩]
        · rw [if_neg e,h2 j hj];unfold r2
          split
          · rfl
          · by_cases e2:xb (gm c a) j=true∧j < i
            · rw [if_pos e2,if_pos ⟨e2.1,by omega⟩]
            · rw [if_neg e2,if_neg (fun h=>e2 ⟨h.1,by have:=h.2;omega⟩)]
      · simp only;rw [h3];unfold K2;rw [List.range_succ,List.filter_append,←List.append_assoc,Jp];simp [ht,cst]
    · rintro _ ⟨⟨R1,K1⟩,rfl,h1,h2,h3⟩
      simp only [Sum.elim_inl] at h1 h2 h3 ⊢
      obtain ⟨hB,hbd⟩:=zdE (G:=gm c a) (r:=at_ R1) (o:=at_ O) h2 ho
      have hQ0:=zdG (bef:=B) (P:=[]) hn h1 hlo hB (by rw [List.nil_append];exact hbd)
      refine Ret.bind (P:=fun v:List Int=>v.length=(gm c a).n∧Qw (gm c a) (at_ v)∧∀ i,i < (gm c a).n→at_ v i≤1500) ?_ ?_
      · obtain ⟨z,hz,hq,_⟩:=hQ0
        have hK1:K1=cst ([]++K2 (gm c a) (gm c a).n):=by rw [h3,List.nil_append];rfl
        rw [hK1]
        refine Ret.bindE hz ?_
        refine Ret.bind (P:=fun y:List Int=>y.length=(gm c a).n∧Qw (gm c a) (at_ y)∧∀ i,i < (gm c a).n→at_ y i≤1500) (Ret.iter (QI (gm c a) B) (fun s=>2*((gm c a).n+2 - s.2.2.2.2.2.toNat)+(bif s.2.1 then 1 else 0)) hq (fun s hs => ?_)) (fun y hy=>Ret.some hy)
        obtain ⟨to,ok,R2,O2,K3,nx⟩:=s
        obtain ⟨g1,g2,P,Q,g3,g4,g5,g6⟩:=hs
        simp only at g1 g2 g3 g4 g5 g6 ⊢
        have hKn:(P++Q).length≤(gm c a).n:=by
          have:=ZY (L2:=List.range (gm c a).n) g3.core.nd (fun y hy=>List.mem_range.2 (g3.core.lt y hy))
          rwa [List.length_range] at this
        rcases g6 with ⟨rfl,rfl,g7⟩ | ⟨rfl,u,Q',rfl,rfl,rfl⟩
        · refine Ret.ite (fun h=>by cases h) (fun _ => ?_)
          exact Ret.some ⟨g1,(g3.done A.closed).ok A.closed,fun i hi=>by have:=g4 i hi;omega⟩
        · refine Ret.ite (fun _ => ?_) (fun h=>by cases h)
          have E:=g3.enter
          obtain ⟨_,hun,_⟩:=E.core.split
          obtain ⟨l,l1,l2,l3⟩:=hbef.row u hun
          have hcount:∀ x,x < (gm c a).n→l.count x=((gm c a).succ x).count u:=fun x hx=>by rw [l3 x,if_pos (by rw [←hgn];exact hx)]
          have hlmem:∀ x∈l,x < (gm c a).n:=fun x hx=>by
            have h5:0 < l.count x:=List.count_pos_iff.2 hx
            rw [l3 x] at h5
            split at h5
            · rename_i h6;exact h6
            · split at h5
              · simp at h5
              · omega
          refine Ret.bindE (zU hun) ?_
          refine Ret.bindE l1 ?_
          refine Ret.bind (P:=fun o:(List Int×List Int×List Int) ⊕ Unit=>∃ s5,o=.inl s5∧s5.1.length=(gm c a).n∧s5.2.1.length=(gm c a).n∧∃ Q2,s5.2.2=cst (P++u::Q2)∧EInv (gm c a) (at_ s5.1) (at_ s5.2.1) P u Q2 (fun y=>l.count y)∧Bnd (gm c a) (at_ s5.1) (P++u::Q2).length) ?_ ?_
          · rw [yC]
            refine Ret.forL (fun k s5=>s5.1.length=(gm c a).n∧s5.2.1.length=(gm c a).n∧∃ Q2,s5.2.2=cst (P++u::Q2)∧EInv (gm c a) (at_ s5.1) (at_ s5.2.1) P u Q2 (fun y=>(l.take k).count y)∧Bnd (gm c a) (at_ s5.1) (P++u::Q2).length) (by omega) ⟨g1,g2,Q',g5,by simpa using E,g4⟩ (fun k s5 hk hs5 => ?_) (fun s5 h=>⟨s5,rfl,by rw [List.take_length] at h;exact h⟩)
            obtain ⟨R4,O4,K4⟩:=s5
            obtain ⟨i1,i2,Q2,i3,i4,i5⟩:=hs5
            simp only at i1 i2 i3 i4 i5 ⊢
            have hx:=hlmem _ (List.getElem_mem hk)
            refine Ret.bindE (zx (e:=(l[k]:Int)) (by unfold cst;rw [List.getElem?_map,List.getElem?_eq_getElem hk];rfl)) ?_
            rw [i3]
            refine Ret.bind (zeT hc A _ i1 i2 i4 i5 hx ?_) (fun z hz => ?_)
            · have h6:=Wd hk l[k]
              unfold upd at h6
              rw [if_pos rfl] at h6
              have h7:(l.take (k+1)).count l[k]≤l.count l[k]:=(List.take_sublist _ _).count_le _
              rw [hcount _ hx] at h7
              show (l.take k).count l[k] < _
              omega
            · obtain ⟨j1,j2,Q3,j3,j4,j5⟩:=hz
              refine Ret.some ⟨j2,j1,Q3,j3,?_,j5⟩
              simp only
              rw [zdF hk];exact j4
          · rintro _ ⟨⟨R4,O4,K4⟩,rfl,i1,i2,Q2,i3,i4,i5⟩
            simp only [Sum.elim_inl] at i1 i2 i3 i4 i5 ⊢
            have hB2:=i4.leave hcount
            have hPQ:P++[u]++Q2=P++u::Q2:=by simp
            obtain ⟨z2,hz2,hq2,hz3,hz4⟩:=zdG (bef:=B) (P:=P++[u]) (Q:=Q2) hn i1 i2 hB2 (by rw [hPQ];exact i5)
            rw [hPQ] at hz2 hq2
            rw [i3]
            have hnx:((P++[u]).length:Int)=(P.length:Int)+1:=by simp
            rw [hnx] at hz2
            refine Ret.bindE hz2 ?_
            refine Ret.some ⟨hq2,?_⟩
            simp only [cond_true]
            rw [List.length_append] at hz3 hz4
            simp only [List.length_cons,List.length_nil] at hz3 hz4
            rcases hz3 with ⟨e1,e2⟩ | ⟨e1,e2⟩
            · rw [e1,e2,cond_false];omega
            · rw [e1,e2,cond_true];omega
      · intro v hv
        refine Ret.bindE (yc (hgn.symm.trans hv.1.symm)) ?_
        exact Ret.some hv
end
end
theorem StartP.get {c:ContractT} {hs:List Int} {ms r:List MarkT} (h:StartP c hs ms r) {i:Nat} {m:MarkT} (hi:i < c.clauses.length) (hm:ms[i]?=some m) (h0:m.status≠0):r[i]?=some m:=by
  have hl:i < r.length:=by rw [h.ok.1];exact hi
  rw [List.getElem?_eq_getElem hl]
  rcases h.rel i m r[i] hm (List.getElem?_eq_getElem hl) with e | ⟨e,_⟩
  · rw [e]
  · exact absurd e h0
theorem zbS {c:ContractT} {party:Int} {q:PosT} {m:Int} (hm:m∈zh c party q):(m = -2∧q.own=true)∨(-1≤m∧m < c.acts.length∧q.state.day < c.days):=by
  rcases wl.1 hm with ⟨h1,h2⟩ | ⟨h1,_,h2⟩ | ⟨h1,i,h2,_,h3⟩
  · exact .inl ⟨h2,h1⟩
  · exact .inr ⟨by omega,by omega,h1⟩
  · exact .inr ⟨by omega,by omega,h1⟩
theorem zaf (c:ContractT) (q:PosT):target c q (-2)={state:=q.state,own:=false}:=if_pos rfl
theorem zag (c:ContractT) (q:PosT) {m:Int} (h : -1≤m):target c q m={state:=jU c q.state m,own:=true}:=if_neg (by omega)
section
section
variable {c:ContractT} {party:Int} {p:PosT} {a:ArenaT}
theorem ArOk.lost (A:ArOk c party p a) {i:Nat} (hi:i < a.positions.length):(gm c a).lost i=qn c a.positions[i].state party:=by
  show (match a.positions[i]? with | some q=>qn c q.state a.party | none=>false)=_
  rw [List.getElem?_eq_getElem hi,A.pa]
theorem ArOk.own (A:ArOk c party p a) {i:Nat} (hi:i < a.positions.length):(gm c a).own i=a.positions[i].own:=by
  show (match a.positions[i]? with | some q=>q.own | none=>false)=_
  rw [List.getElem?_eq_getElem hi]
theorem ArOk.pos (A:ArOk c party p a):0 < a.positions.length:=(List.getElem?_eq_some_iff.1 A.F.first).1
theorem ArOk.tgt (A:ArOk c party p a) {i:Nat} (hi:i < a.positions.length) {T:List MoveT} (hT:a.moves[i]?=some T) {m:MoveT} (hm:m∈T) :
    m.step∈zh c party a.positions[i]∧0≤m.to∧∃ h:m.to.toNat < a.positions.length,a.positions[m.to.toNat]=target c a.positions[i] m.step:=by
  obtain ⟨T',h1,h2,h3⟩:=A.mv hi
  rw [hT] at h1;cases h1
  obtain ⟨h4,h5⟩:=h3 m hm
  obtain ⟨h6,h7⟩:=List.getElem?_eq_some_iff.1 h5
  exact ⟨by rw [←h2];exact List.mem_map.2 ⟨m,hm,rfl⟩,h4,h6,h7⟩
theorem ArOk.ne (A:ArOk c party p a) {i:Nat} (hi:i < a.positions.length) {T:List MoveT} (hT:a.moves[i]?=some T) (ho:a.positions[i].own=true):T≠[]:=by
  obtain ⟨T',h1,h2,_⟩:=A.mv hi
  rw [hT] at h1;cases h1
  intro e
  subst e
  have:(-2:Int)∈zh c party a.positions[i]:=wl.2 (.inl ⟨ho,rfl⟩)
  rw [←h2] at this;cases this
end
end
section
def AttrP (c:ContractT) (party:Int):Nat→PosT→Prop
  | 0,q=>qn c q.state party=true
  | k+1,q=>qn c q.state party=true∨(q.own=true∧∀ m∈zh c party q,AttrP c party k (target c q m))∨(q.own=false∧∃ m∈zh c party q,AttrP c party k (target c q m))
def xF (c:ContractT) (party:Int) (q:PosT):Prop:=∀ k,¬ AttrP c party k q
theorem AttrP.zero {c:ContractT} {party:Int} {q:PosT} (h:qn c q.state party=true):∀ k,AttrP c party k q
  | 0=>h
  | k+1=>.inl h
theorem AttrP.succ1 {c:ContractT} {party:Int}:∀ {k:Nat} {q:PosT},AttrP c party k q→AttrP c party (k+1) q
  | 0,q,h=>.inl h
  | k+1,q,h=>by
    rcases h with h | ⟨h1,h2⟩ | ⟨h1,t,h2,h3⟩
    · exact .inl h
    · exact .inr (.inl ⟨h1,fun t ht=>(h2 t ht).succ1⟩)
    · exact .inr (.inr ⟨h1,t,h2,h3.succ1⟩)
theorem AttrP.mono {c:ContractT} {party:Int} {k k':Nat} {q:PosT} (hk:k≤k') (h:AttrP c party k q):AttrP c party k' q:=by
  induction hk with
  | refl=>exact h
  | step _ ih=>exact ih.succ1
section
variable {c:ContractT} {party:Int} {p:PosT} {a:ArenaT}
theorem zdH (A:ArOk c party p a):∀ (k i:Nat) (hi:i < a.positions.length),Attr (gm c a) k i↔AttrP c party k a.positions[i]
  | 0,i,hi=>by show (gm c a).lost i=true↔_;rw [A.lost hi];rfl
  | k+1,i,hi=>by
    obtain ⟨T,hT,hst,_⟩:=A.mv hi
    have hs:=A.succ hi hT
    have go:∀ m∈T,(Attr (gm c a) k m.to.toNat↔AttrP c party k (target c a.positions[i] m.step)):=fun m hm=>by
      obtain ⟨_,_,t3,t4⟩:=A.tgt hi hT hm
      rw [zdH A k _ t3,t4]
    have hall:(∀ t∈(gm c a).succ i,Attr (gm c a) k t)↔∀ m∈zh c party a.positions[i],AttrP c party k (target c a.positions[i] m):=by
      rw [hs,←hst]
      constructor
      · intro h x hx
        obtain ⟨m,hm,rfl⟩:=List.mem_map.1 hx
        exact (go m hm).1 (h _ (List.mem_map.2 ⟨m,hm,rfl⟩))
      · intro h x hx
        obtain ⟨m,hm,rfl⟩:=List.mem_map.1 hx
        exact (go m hm).2 (h _ (List.mem_map.2 ⟨m,hm,rfl⟩))
    have hex:(∃ t∈(gm c a).succ i,Attr (gm c a) k t)↔∃ m∈zh c party a.positions[i],AttrP c party k (target c a.positions[i] m):=by
      rw [hs,←hst]
      constructor
      · rintro ⟨x,hx,h⟩
        obtain ⟨m,hm,rfl⟩:=List.mem_map.1 hx
        exact ⟨_,List.mem_map.2 ⟨m,hm,rfl⟩,(go m hm).1 h⟩
      · rintro ⟨x,hx,h⟩
        obtain ⟨m,hm,rfl⟩:=List.mem_map.1 hx
        exact ⟨_,List.mem_map.2 ⟨m,hm,rfl⟩,(go m hm).2 h⟩
    show ((gm c a).lost i=true∨((gm c a).own i=true∧∀ t∈(gm c a).succ i,Attr (gm c a) k t)∨((gm c a).own i=false∧∃ t∈(gm c a).succ i,Attr (gm c a) k t))↔_
    rw [A.lost hi,A.own hi,hall,hex]
    rfl
def RankP (c:ContractT) (party:Int) (q:PosT) (x:Int):Prop := -1≤x∧∀ k:Nat,(x ≠ -1∧x≤k)↔AttrP c party k q
theorem zdI (A:ArOk c party p a) {r:Nat→Int} (hr:Qw (gm c a) r) {i:Nat} (hi:i < a.positions.length):RankP c party a.positions[i] (r i):=
  ⟨(hr i hi).1,fun k=>((hr i hi).2 k).trans (zdH A k i hi)⟩
theorem RankP.uniq {q:PosT} {x y:Int} (h1:RankP c party q x) (h2:RankP c party q y):x=y:=by
  by_cases e:x = -1
  · by_cases e2:y = -1
    · rw [e,e2]
    · have:=(h1.2 y.toNat).2 ((h2.2 y.toNat).1 ⟨e2,by have:=h2.1;omega⟩)
      exact absurd e this.1
  · by_cases e2:y = -1
    · have:=(h2.2 x.toNat).2 ((h1.2 x.toNat).1 ⟨e,by have:=h1.1;omega⟩)
      exact absurd e2 this.1
    · have:=(h1.2 y.toNat).2 ((h2.2 y.toNat).1 ⟨e2,by have:=h2.1;omega⟩)
      have:=(h2.2 x.toNat).2 ((h1.2 x.toNat).1 ⟨e,by have:=h1.1;omega⟩)
      have:=h1.1;have:=h2.1
      omega
theorem RankP.safe {q:PosT} {x:Int} (h:RankP c party q x):x = -1↔xF c party q:=by
  constructor
  · intro e k hk
    exact ((h.2 k).2 hk).1 e
  · intro hs
    have:=h.1
    by_cases e:x = -1
    · exact e
    · exact absurd ((h.2 x.toNat).1 ⟨e,by omega⟩) (hs _)
end
end
section
open Classical in
noncomputable def z7 (c:ContractT) (party:Int) (q:PosT):Bool:=decide (xF c party q)
theorem qA {c:ContractT} {party:Int} {q:PosT}:z7 c party q=true↔xF c party q:=by unfold z7;simp
theorem QS {c:ContractT} {party:Int} {q:PosT} (h:xF c party q):qn c q.state party=false:=by
  cases e:qn c q.state party with
  | false=>rfl
  | true=>exact absurd e (h 0)
theorem zbT {c:ContractT} {party:Int} (l:List Int) (f:Int→PosT) (h:∀ m∈l,¬ xF c party (f m)):∃ k,∀ m∈l,AttrP c party k (f m):=by
  induction l with
  | nil=>exact ⟨0,fun m hm=>by cases hm⟩
  | cons x l ih=>
    obtain ⟨k,hk⟩:=ih fun m hm=>h m (List.mem_cons_of_mem _ hm)
    have hx:=h x List.mem_cons_self
    obtain ⟨k2,hk2⟩:∃ k,AttrP c party k (f x):=Classical.not_forall_not.1 hx
    refine ⟨k+k2,fun m hm => ?_⟩
    rcases List.mem_cons.1 hm with rfl | hm
    · exact hk2.mono (by omega)
    · exact (hk m hm).mono (by omega)
theorem Kr {c:ContractT} {party:Int} {q:PosT} (ho:q.own=true):xF c party q↔qn c q.state party=false∧∃ m∈zh c party q,xF c party (target c q m):=by
  constructor
  · intro h
    refine ⟨QS h,?_⟩
    apply Classical.byContradiction
    intro hn
    obtain ⟨k,hk⟩:=zbT (zh c party q) (target c q) (fun m hm hs=>hn ⟨m,hm,hs⟩)
    exact h (k+1) (.inr (.inl ⟨ho,hk⟩))
  · rintro ⟨h1,m,hm,h2⟩ k hk
    cases k with
    | zero=>
      have hk:qn c q.state party=true:=hk
      rw [h1] at hk;cases hk
    | succ k=>
      rcases hk with hk | ⟨_,hk⟩ | ⟨hk,_⟩
      · rw [h1] at hk;cases hk
      · exact h2 k (hk m hm)
      · rw [ho] at hk;cases hk
theorem zeU {c:ContractT} {party:Int} {q:PosT} (ho:q.own=false):xF c party q↔qn c q.state party=false∧∀ m∈zh c party q,xF c party (target c q m):=by
  constructor
  · intro h
    exact ⟨QS h,fun m hm k hk=>h (k+1) (.inr (.inr ⟨ho,m,hm,hk⟩))⟩
  · rintro ⟨h1,h2⟩ k hk
    cases k with
    | zero=>
      have hk:qn c q.state party=true:=hk
      rw [h1] at hk;cases hk
    | succ k=>
      rcases hk with hk | ⟨hk,_⟩ | ⟨_,m,hm,hk⟩
      · rw [h1] at hk;cases hk
      · rw [ho] at hk;cases hk
      · exact h2 m hm k hk
section
variable {c:ContractT} {party:Int} {p:PosT} {a:ArenaT}
theorem zeV (hc:c.Ok) (A:ArOk c party p a):Ze c a=some (a.positions.map (z7 c party)):=by
  refine Ret.eq ?_
  have hn:a.positions.length≤1500:=A.F.inv.len
  unfold Ze
  refine Ret.bind (VH hc A) ?_
  rintro r ⟨hl,hr,_⟩
  have hmk:mkN 1 (r.length:Int)=some a.positions.length:=by rw [hl];exact Jq hn (by omega)
  refine Ret.bindE hmk ?_
  refine Ret.bind (P:=fun o:List Bool ⊕ Unit=>o=.inl (a.positions.map (z7 c party))) (Ret.forL (fun i s=>s.length=a.positions.length∧∀ j,j < i→s[j]?=(a.positions.map (z7 c party))[j]?) (by omega) ⟨by simp,fun j hj=>by omega⟩ (fun i s hi hs => ?_) (fun s hs => ?_)) ?_
  · have hi':i < a.positions.length:=by omega
    refine Ret.bindE (zx (wF hi)) ?_
    refine Ret.bindE (zU hi') ?_
    refine Ret.bindE (List.getElem?_eq_getElem (show i < s.length by omega)) ?_
    refine Ret.some ⟨by simp [hs.1],fun j hj => ?_⟩
    by_cases e:j=i
    · subst e
      rw [List.getElem?_set_self (by omega),List.getElem?_map,List.getElem?_eq_getElem hi']
      simp only [Option.map_some,Option.some.injEq]
      have h1:=(zdI A hr hi').safe
      cases h2:z7 c party a.positions[j] with
      | true=>rw [h1.2 (qA.1 h2)];rfl
      | false=>
        refine beq_eq_false_iff_ne.2 fun e => ?_
        rw [qA.2 (h1.1 e)] at h2;cases h2
    · rw [List.getElem?_set_ne (Ne.symm e)];exact hs.2 j (by omega)
  · have e:s=a.positions.map (z7 c party):=List.ext_getElem? fun j=>by
      by_cases h:j < r.length
      · exact hs.2 j h
      · rw [List.getElem?_eq_none (by omega),List.getElem?_eq_none (by simp;omega)]
    rw [e]
  · rintro _ rfl
    simp only [Sum.elim_inl]
    refine Ret.bindE (yc (by simp)) ?_
    exact Ret.some rfl
noncomputable def yZ (c:ContractT) (party:Int) (q:PosT):Int:=
  bif q.own&&z7 c party q then ((zh c party q).find? fun m=>z7 c party (target c q m)).getD (-2) else -2
theorem zaI (A:ArOk c party p a) {i:Nat} (hi:i < a.positions.length):ze (a.positions.map (z7 c party)) (i:Int)=some (z7 c party a.positions[i]):=zx (by rw [List.getElem?_map,List.getElem?_eq_getElem hi];rfl)
theorem zf9 (A:ArOk c party p a) {i:Nat} (hi:i < a.positions.length) {T:List MoveT} (hT:a.moves[i]?=some T) {m:MoveT} (hm:m∈T):ze (a.positions.map (z7 c party)) m.to=some (z7 c party (target c a.positions[i] m.step)):=by
  obtain ⟨_,t2,t3,t4⟩:=A.tgt hi hT hm
  have:=zaI A t3
  rw [Int.toNat_of_nonneg t2,t4] at this
  exact this
end
end
structure ShieldP (c:ContractT) (s:ShieldT):Prop where
  p0:0≤s.party
  p1:s.party < c.parties
  n1:1≤s.rows.length
  n2:s.rows.length≤1500
  vs:∀ r∈s.rows,VS c r.position.state
  lost:∀ r∈s.rows,qn c r.position.state s.party=false
  own:∀ r∈s.rows,r.position.own=true→r.move∈zh c s.party r.position∧∃ r'∈s.rows,r'.position=target c r.position r.move
  oth:∀ r∈s.rows,r.position.own=false→∀ m∈zh c s.party r.position,∃ r'∈s.rows,r'.position=target c r.position m
structure DoomP (c:ContractT) (d:DoomT):Prop where
  p0:0≤d.party
  p1:d.party < c.parties
  n1:1≤d.rows.length
  n2:d.rows.length≤1500
  vs:∀ r∈d.rows,VS c r.position.state
  rk:∀ r∈d.rows,0≤r.rank
  zero:∀ r∈d.rows,r.rank=0→qn c r.position.state d.party=true
  own:∀ r∈d.rows,0 < r.rank→r.position.own=true→∀ m∈zh c d.party r.position,∃ r'∈d.rows,r'.position=target c r.position m∧r'.rank < r.rank
  oth:∀ r∈d.rows,0 < r.rank→r.position.own=false→r.move∈zh c d.party r.position∧∃ r'∈d.rows,r'.position=target c r.position r.move∧r'.rank < r.rank
section
section
variable {c:ContractT} {party:Int} {p:PosT} {a:ArenaT}
theorem zga {q:PosT} (ho:q.own=true) (hs:z7 c party q=true):yZ c party q∈zh c party q∧z7 c party (target c q (yZ c party q))=true∧∀ m∈zh c party q,z7 c party (target c q m)=true→yZ c party q≤m:=by
  obtain ⟨_,m0,hm0,hs0⟩:=(Kr ho).1 (qA.1 hs)
  have hadv:yZ c party q=((zh c party q).find? fun m=>z7 c party (target c q m)).getD (-2):=by unfold yZ;rw [ho,hs];rfl
  cases hf:(zh c party q).find? (fun m=>z7 c party (target c q m)) with
  | none=>
    have:=List.find?_eq_none.1 hf m0 hm0
    rw [qA.2 hs0] at this
    exact absurd rfl this
  | some x=>
    rw [hf] at hadv
    have hadv:yZ c party q=x:=hadv
    obtain ⟨h1,i,hi,h2,h3⟩:=List.find?_eq_some_iff_getElem.1 hf
    rw [hadv]
    refine ⟨by rw [←h2];exact List.getElem_mem hi,h1,fun m hm hsm => ?_⟩
    obtain ⟨j,hj,rfl⟩:=List.getElem_of_mem hm
    by_cases e:j < i
    · have:=h3 j e
      rw [hsm] at this;cases this
    · by_cases e2:j=i
      · subst e2;omega
      · have:=List.pairwise_iff_getElem.1 (zdB c party q) i j hi hj (by omega)
        omega
end
end
section
theorem zaJ (c:ContractT) (party:Int) (q:PosT):∃ x,RankP c party q x:=by
  by_cases h:∃ k,AttrP c party k q
  · have least:∀ (n:Nat),AttrP c party n q→∃ k,AttrP c party k q∧∀ j,AttrP c party j q→k≤j:=by
      intro n
      induction n using Nat.strongRecOn with
      | _ n ih=>
        intro hn
        by_cases h2:∃ j,j < n∧AttrP c party j q
        · obtain ⟨j,hj,hp⟩:=h2;exact ih j hj hp
        · exact ⟨n,hn,fun j hj=>Nat.le_of_not_lt fun hlt=>h2 ⟨j,hlt,hj⟩⟩
    obtain ⟨n,hn⟩:=h
    obtain ⟨k,hk,hl⟩:=least n hn
    refine ⟨(k:Int),by omega,fun j=>⟨fun h=>hk.mono (by omega),fun h=>⟨by omega,by have:=hl j h;omega⟩⟩⟩
  · exact ⟨-1,by omega,fun j=>⟨fun h=>absurd rfl h.1,fun h'=>absurd ⟨j,h'⟩ h⟩⟩
open Classical in
noncomputable def rkP (c:ContractT) (party:Int) (q:PosT):Int:=(zaJ c party q).choose
theorem yg (c:ContractT) (party:Int) (q:PosT):RankP c party q (rkP c party q):=(zaJ c party q).choose_spec
theorem QT (c:ContractT) (party:Int) (q:PosT) : -1≤rkP c party q:=(yg c party q).1
theorem Ks {c:ContractT} {party:Int} {q:PosT}:rkP c party q = -1↔xF c party q:=(yg c party q).safe
theorem Xa {c:ContractT} {party:Int} {q:PosT}:rkP c party q=0↔qn c q.state party=true:=by
  have h:=(yg c party q).2 0
  have hl:=QT c party q
  constructor
  · intro e;exact h.1 ⟨by omega,by omega⟩
  · intro e
    have:=h.2 e
    omega
theorem zgb {c:ContractT} {party:Int} {q:PosT} (h:0 < rkP c party q) (ho:q.own=true) {m:Int} (hm:m∈zh c party q):0≤rkP c party (target c q m)∧rkP c party (target c q m) < rkP c party q:=by
  obtain ⟨k,hk⟩:∃ k:Nat,rkP c party q=((k+1:Nat):Int):=⟨(rkP c party q).toNat - 1,by omega⟩
  have hA:=((yg c party q).2 (k+1)).1 ⟨by omega,by omega⟩
  rcases hA with h1 | ⟨_,h2⟩ | ⟨h2,_⟩
  · have:=Xa.2 h1;omega
  · have:=((yg c party (target c q m)).2 k).2 (h2 m hm)
    have:=QT c party (target c q m)
    omega
  · rw [ho] at h2;cases h2
theorem zgc {c:ContractT} {party:Int} {q:PosT} (h:0 < rkP c party q) (ho:q.own=false):∃ m∈zh c party q,0≤rkP c party (target c q m)∧rkP c party (target c q m) < rkP c party q:=by
  obtain ⟨k,hk⟩:∃ k:Nat,rkP c party q=((k+1:Nat):Int):=⟨(rkP c party q).toNat - 1,by omega⟩
  have hA:=((yg c party q).2 (k+1)).1 ⟨by omega,by omega⟩
  rcases hA with h1 | ⟨h2,_⟩ | ⟨_,m,hm,h2⟩
  · have:=Xa.2 h1;omega
  · rw [ho] at h2;cases h2
  · have:=((yg c party (target c q m)).2 k).2 h2
    have:=QT c party (target c q m)
    exact ⟨m,hm,by omega,by omega⟩
section
variable {c:ContractT} {party:Int} {p:PosT} {a:ArenaT}
theorem zbU (hc:c.Ok) (A:ArOk c party p a):wi c a=some (a.positions.map (rkP c party)):=by
  refine Ret.eq (Ret.mono (VH hc A) ?_)
  rintro r ⟨hl,hr,_⟩
  refine List.ext_getElem? fun i => ?_
  rw [List.getElem?_map]
  by_cases hi:i < a.positions.length
  · have h1:=zdI A hr hi
    have h2:=h1.uniq (yg c party a.positions[i])
    rw [List.getElem?_eq_getElem hi,Option.map_some,←h2]
    have:i < r.length:=by rw [hl];exact hi
    rw [List.getElem?_eq_getElem this]
    simp [at_,this]
  · rw [List.getElem?_eq_none (by omega),List.getElem?_eq_none (by omega)];rfl
noncomputable def vJ (c:ContractT) (party:Int) (q:PosT):Int:=bif q.own then yZ c party q else 0
noncomputable def qq (c:ContractT) (party:Int) (l:List PosT):List ShieldRowT:=(l.filter (z7 c party)).map fun q=>{position:=q,move:=vJ c party q}
theorem ZZ {l:List PosT} {P:PosT} (h:P∈l) (hs:xF c party P):∃ r'∈qq c party l,r'.position=P:=
  ⟨_,List.mem_map.2 ⟨P,List.mem_filter.2 ⟨h,qA.2 hs⟩,rfl⟩,rfl⟩
theorem Kt (A:ArOk c party p a) (hs:xF c party p):ShieldP c {party:=party,rows:=qq c party a.positions}:=by
  have hrow:∀ r∈qq c party a.positions,∃ q∈a.positions,xF c party q∧r={position:=q,move:=vJ c party q}:=fun r hr=>by
    obtain ⟨q,hq,rfl⟩:=List.mem_map.1 hr
    obtain ⟨h1,h2⟩:=List.mem_filter.1 hq
    exact ⟨q,h1,qA.1 h2,rfl⟩
  refine ⟨A.p0,A.p1,?_,?_,fun r hr => ?_,fun r hr => ?_,fun r hr ho => ?_,fun r hr ho m hm => ?_⟩
  · obtain ⟨r,hr,_⟩:=ZZ (List.mem_of_getElem? A.F.first) hs
    exact List.length_pos_of_mem hr
  · have h1:=A.F.inv.len
    have h2:=List.length_filter_le (z7 c party) a.positions
    show (qq c party a.positions).length≤1500
    unfold qq
    rw [List.length_map];omega
  · obtain ⟨q,hq,hsq,rfl⟩:=hrow r hr;exact A.F.inv.vs q hq
  · obtain ⟨q,hq,hsq,rfl⟩:=hrow r hr;exact QS hsq
  · obtain ⟨q,hq,hsq,rfl⟩:=hrow r hr
    have ho:q.own=true:=ho
    obtain ⟨g1,g2,_⟩:=zga (c:=c) (party:=party) ho (qA.2 hsq)
    have e:vJ c party q=yZ c party q:=by unfold vJ;rw [ho];rfl
    show vJ c party q∈zh c party q∧_
    rw [e]
    exact ⟨g1,ZZ (A.F.closed hq g1) (qA.1 g2)⟩
  · obtain ⟨q,hq,hsq,rfl⟩:=hrow r hr
    have ho:q.own=false:=ho
    have hm:m∈zh c party q:=hm
    exact ZZ (A.F.closed hq hm) (((zeU ho).1 hsq).2 m hm)
theorem zbV (A:ArOk c party p a) (hp:rkP c party p ≠ -1) {rows:List DoomRowT} (hl:rows.length≤1500)
    (h1:∀ r∈rows,r.position∈a.positions∧r.rank=rkP c party r.position∧0≤r.rank∧(0 < r.rank→r.position.own=false→r.move∈zh c party r.position∧0≤rkP c party (target c r.position r.move)∧rkP c party (target c r.position r.move) < r.rank))
    (h2:∀ q∈a.positions,0≤rkP c party q→∃ r∈rows,r.position=q):DoomP c {party:=party,rows:=rows}:=by
  have hex:∀ q∈a.positions,0≤rkP c party q→∃ r∈rows,r.position=q∧r.rank=rkP c party q:=fun q hq h0=>by
    obtain ⟨r,hr,e⟩:=h2 q hq h0
    exact ⟨r,hr,e,by rw [(h1 r hr).2.1,e]⟩
  refine ⟨A.p0,A.p1,?_,hl,fun r hr=>A.F.inv.vs _ (h1 r hr).1,fun r hr=>(h1 r hr).2.2.1,fun r hr hz => ?_,fun r hr h0 ho m hm => ?_,fun r hr h0 ho => ?_⟩
  · obtain ⟨r,hr,_⟩:=h2 p (List.mem_of_getElem? A.F.first) (by have:=QT c party p;omega)
    exact List.length_pos_of_mem hr
  · have:=(h1 r hr).2.1
    exact (Xa (party:=party)).1 (by omega)
  · have hm:m∈zh c party r.position:=hm
    obtain ⟨g1,g2,g3,_⟩:=h1 r hr
    obtain ⟨k1,k2⟩:=zgb (c:=c) (party:=party) (by omega) ho hm
    obtain ⟨r',hr',e1,e2⟩:=hex _ (A.F.closed g1 hm) k1
    exact ⟨r',hr',e1,by omega⟩
  · obtain ⟨g1,g2,g3,g4⟩:=h1 r hr
    obtain ⟨k0,k1,k2⟩:=g4 h0 ho
    obtain ⟨r',hr',e1,e2⟩:=hex _ (A.F.closed g1 k0) k1
    exact ⟨k0,r',hr',e1,by omega⟩
end
end
def j9 (c:ContractT) (F:List (ByteArray×Int)) (l:List (PosT×Int)):Prop:=
  ∀ q:PosT,VS c q.state→(∀ v,zq (txt q) F=some v→(∃ x∈l,x.1=q∧x.2=v)∧∀ x∈l,x.1=q→v≤x.2)∧(zq (txt q) F=none→∀ x∈l,x.1≠q)
theorem zdJ (c:ContractT):j9 c [] []:=by
  intro q _
  exact ⟨fun v h=>by simp [zq] at h,fun _ x hx=>by simp at hx⟩
theorem zbW {c:ContractT} {F:List (ByteArray×Int)} {l:List (PosT×Int)} {q:PosT} (h:j9 c F l) (hq:VS c q.state) (r:Int):j9 c (bif (bif !(zq (txt q) F).isSome then true else decide (r < (zq (txt q) F).getD 0)) then zX (txt q) r F else F) (l++[(q,r)]):=by
  intro q' hq'
  obtain ⟨h1,h2⟩:=h q' hq'
  by_cases e:q'=q
  · subst e
    cases hm:zq (txt q') F with
    | none=>
      have h2:=h2 hm
      show (∀ v,zq (txt q') (zX (txt q') r F)=some v→_)∧(zq (txt q') (zX (txt q') r F)=none→_)
      rw [xE]
      refine ⟨fun v hv => ?_,fun hv=>by cases hv⟩
      cases hv
      refine ⟨⟨_,List.mem_append_right _ (List.mem_singleton.2 rfl),rfl,rfl⟩,fun x hx hxq => ?_⟩
      rcases List.mem_append.1 hx with g | g
      · exact absurd hxq (h2 x g)
      · rw [List.mem_singleton.1 g];exact Int.le_refl _
    | some v=>
      obtain ⟨⟨y,hy,hy1,hy2⟩,g2⟩:=h1 v hm
      by_cases hlt:r < v
      · have e2:decide (r < (some v).getD 0)=true:=decide_eq_true hlt
        rw [e2]
        show (∀ v,zq (txt q') (zX (txt q') r F)=some v→_)∧(zq (txt q') (zX (txt q') r F)=none→_)
        rw [xE]
        refine ⟨fun w hw => ?_,fun hw=>by cases hw⟩
        cases hw
        refine ⟨⟨_,List.mem_append_right _ (List.mem_singleton.2 rfl),rfl,rfl⟩,fun x hx hxq => ?_⟩
        rcases List.mem_append.1 hx with g | g
        · have:=g2 x g hxq;omega
        · rw [List.mem_singleton.1 g];exact Int.le_refl _
      · have e2:decide (r < (some v).getD 0)=false:=decide_eq_false hlt
        rw [e2]
        show (∀ v,zq (txt q') F=some v→_)∧(zq (txt q') F=none→_)
        rw [hm]
        refine ⟨fun w hw => ?_,fun hw=>by cases hw⟩
        cases hw
        refine ⟨⟨y,List.mem_append_left _ hy,hy1,hy2⟩,fun x hx hxq => ?_⟩
        rcases List.mem_append.1 hx with g | g
        · exact g2 x g hxq
        · rw [List.mem_singleton.1 g];show v≤r;omega
  · have ne:txt q'≠txt q:=fun h=>e (WQ hq' hq h)
    have e1:∀ b:Bool,zq (txt q') (bif b then zX (txt q) r F else F)=zq (txt q') F:=fun b=>by
      cases b with
      | true=>exact yX r ne F
      | false=>rfl
    rw [e1]
    refine ⟨fun v hv => ?_,fun hv x hx => ?_⟩
    · obtain ⟨⟨y,hy,hy1,hy2⟩,g2⟩:=h1 v hv
      refine ⟨⟨y,List.mem_append_left _ hy,hy1,hy2⟩,fun x hx hxq => ?_⟩
      rcases List.mem_append.1 hx with g | g
      · exact g2 x g hxq
      · rw [List.mem_singleton.1 g] at hxq;exact absurd hxq.symm e
    · rcases List.mem_append.1 hx with g | g
      · exact h2 hv x g
      · rw [List.mem_singleton.1 g];exact fun h=>e h.symm
theorem zdK {c:ContractT} {F:List (ByteArray×Int)} {l:List (PosT×Int)} (h:j9 c F l) {q:PosT} (hq:VS c q.state):(zq (txt q) F).isSome=true↔∃ x∈l,x.1=q:=by
  obtain ⟨h1,h2⟩:=h q hq
  cases hm:zq (txt q) F with
  | none=>
    simp only [Option.isSome_none]
    refine ⟨fun h=>by (cases h),fun ⟨x,hx,e⟩=>absurd e (h2 hm x hx)⟩
  | some v=>
    simp only [Option.isSome_some,true_iff]
    obtain ⟨⟨y,hy,hy1,hy2⟩,_⟩:=h1 v hm
    exact ⟨y,hy,hy1⟩
theorem zdL {c:ContractT} {F:List (ByteArray×Int)} {l:List (PosT×Int)} (h:j9 c F l) {q:PosT} (hq:VS c q.state) {n:Int}:(bif (zq (txt q) F).isSome then decide ((zq (txt q) F).getD 0 < n) else false)=true↔∃ x∈l,x.1=q∧x.2 < n:=by
  obtain ⟨h1,h2⟩:=h q hq
  cases hm:zq (txt q) F with
  | none=>exact ⟨fun h=>by (cases h),fun ⟨x,hx,e,_⟩=>absurd e (h2 hm x hx)⟩
  | some v=>
    obtain ⟨⟨y,hy,hy1,hy2⟩,g2⟩:=h1 v hm
    show decide (v < n)=true↔_
    rw [decide_eq_true_eq]
    refine ⟨fun hv=>⟨y,hy,hy1,by omega⟩,fun ⟨x,hx,e,hlt⟩=>by have:=g2 x hx e;omega⟩
theorem zaK {c:ContractT} (hc:c.Ok) (party:Int) (p:PosT):wj c party p=some (bif yt c party p.state then (zh c party p,0) else ([],1)):=by
  unfold wj
  rw [ZW hc]
  simp only [Option.bind_some]
  cases hpl:yt c party p.state with
  | false=>rfl
  | true=>
    obtain ⟨hp0,hp1,hv⟩:=yd.1 hpl
    have sm:=q7 (hc.off.lt (by omega)) hv.cv
    have sa:=sm.acts
    simp only [cond_true,XW,Option.bind_some,J5 hc hv]
    have e1:(bif p.own then (Option.bind (zS (α:=Int) 8 [] [(-2)]) fun e1=>some e1) else some [])=some (bif p.own then [-2] else []):=by
      rw [xz (by simp)];cases p.own<;>rfl
    rw [e1]
    simp only [Option.bind_some]
    cases hd:decide (c.days≤p.state.day) with
    | true=>simp only [cond_true,Option.bind_some,zh,hd,List.append_nil]
    | false=>
      have hd':=of_decide_eq_false hd
      obtain ⟨est,_⟩:=vi (a := -1) hc hv (by omega) (by omega) (by omega)
      have e2:(bif p.own then some (bif p.own then [-2] else []) else (Option.bind (d_Step c p.state (-1)) fun r4=>(Option.bind (zS (α:=Int) 8 (bif p.own then [-2] else []) [(-1)]) fun e2=>some e2)))=some (bif p.own then [-2] else [-1]):=by
        cases p.own with
        | true=>rfl
        | false=>rw [est];simp only [cond_false,Option.bind_some,List.nil_append];rw [xz (by simp)];rfl
      simp only [cond_false]
      rw [e2]
      simp only [Option.bind_some]
      have hloop:forR (σ:=(List Int)) (ρ:=(List Int)) (c.acts.length:Int) (fun i1 s1=>(Option.bind (α:=(List Int) ⊕ (List Int)) (Option.bind (ze c.acts (i1:Int)) fun e3=>(Option.bind (bif (e3.role == (-1)) then some (-1) else (Option.bind (ze p.state.holders e3.role) fun e4=>some e4)) fun (v3:Int)=>(bif ((v3 == party) == p.own) then (Option.bind (d_Step c p.state (i1:Int)) fun r5=>(Option.bind (Option.bind (xB r5.1 p.state) fun r6=>(bif r6 then some (false,s1) else (Option.bind (zS (α:=Int) 8 s1 [(i1:Int)]) fun e5=>some ((!true),e5)))) fun (v4:Bool×(List Int))=>(bif v4.1 then some (.inr v4.2) else some (.inl v4.2)))) else some (.inl s1)))) (Sum.elim (fun (v5:(List Int))=>some (.inl v5)) (fun (y1:(List Int))=>some (.inr y1))))) (bif p.own then [-2] else [-1])
          = some (.inl ((bif p.own then [-2] else [-1])++qD c party p c.acts.length)):=by
        obtain ⟨o,h1,h2⟩:=xy (n:=c.acts.length) (s0:=(bif p.own then [(-2:Int)] else [-1])) (f:=(fun i1 s1=>(Option.bind (α:=(List Int) ⊕ (List Int)) (Option.bind (ze c.acts (i1:Int)) fun e3=>(Option.bind (bif (e3.role == (-1)) then some (-1) else (Option.bind (ze p.state.holders e3.role) fun e4=>some e4)) fun (v3:Int)=>(bif ((v3 == party) == p.own) then (Option.bind (d_Step c p.state (i1:Int)) fun r5=>(Option.bind (Option.bind (xB r5.1 p.state) fun r6=>(bif r6 then some (false,s1) else (Option.bind (zS (α:=Int) 8 s1 [(i1:Int)]) fun e5=>some ((!true),e5)))) fun (v4:Bool×(List Int))=>(bif v4.1 then some (.inr v4.2) else some (.inl v4.2)))) else some (.inl s1)))) (Sum.elim (fun (v5:(List Int))=>some (.inl v5)) (fun (y1:(List Int))=>some (.inr y1)))))) (fun i s=>s=(bif p.own then [-2] else [-1])++qD c party p i) (fun _=>False) (by omega) (by simp [qD]) (fun i s hi hs=>by
          have hx:=List.getElem?_eq_getElem hi
          have av:=Ye hv.cv hx
          rw [zx hx]
          simp only [Option.bind_some,Kl hv av]
          have hmv:mvB c party p i=(((xh p.state.holders c.acts[i] == party) == p.own) && !xD (jU c p.state i) p.state):=by simp only [mvB,hx]
          cases hq:((xh p.state.holders c.acts[i] == party) == p.own) with
          | false=>
            refine ⟨.inl s,rfl,?_⟩
            show s=_
            rw [jV,hmv,hq,hs];simp
          | true=>
            obtain ⟨est,hvs,_⟩:=vi (a:=(i:Int)) hc hv (by omega) (by omega) (by omega)
            have hfew:=hvs.few hc
            rw [est]
            simp only [cond_true,Option.bind_some]
            rw [zaG _ _ (by omega) (by omega) (by omega)]
            simp only [Option.bind_some]
            cases hsm:xD (jU c p.state i) p.state with
            | true=>
              refine ⟨.inl s,rfl,?_⟩
              show s=_
              rw [jV,hmv,hq,hsm,hs];simp
            | false=>
              have hl:=QO c party p i
              have hls:s.length≤1+i:=by rw [hs];cases p.own<;>simp<;>omega
              simp only [cond_false]
              rw [xz (by simp;omega)]
              refine ⟨.inl (s++[(i:Int)]),rfl,?_⟩
              show s++[(i:Int)]=_
              rw [jV,hmv,hq,hsm,hs];simp)
        rw [h1]
        cases o with
        | inl s=>exact congrArg _ (congrArg _ h2)
        | inr r=>exact h2.elim
      rw [hloop]
      simp only [Option.bind_some,Sum.elim_inl,zh,hd,cond_false]
      cases p.own<;>rfl
end Go.Proofs.YtmoedieenlaegaaGreatDoor
