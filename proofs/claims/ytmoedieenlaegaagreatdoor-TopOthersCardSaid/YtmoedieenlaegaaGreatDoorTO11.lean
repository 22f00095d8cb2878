/-
  'system.Step': what it returns.
  'arena.Moves' and 'arena.After': what they return.
  'arena.After'; 'Few', 'Tame', 'Doer'.
  The text of a position tells it from every other position of the same contract.
  A search through positions, breadth first: what is known of it.
  'arena.From': what it returns.
  'system.Start', 'arena.Build', 'Index'.
  What an arena holds: closed under moves, and all that can be reached.
  region.Ranks: what it returns for an arena is the number of moves in which a breach can be forced.
  region.Ranks: the queue.
  region.Ranks: all of it.
  A clause that has ended stays as it is; a breach stays a breach.
  RegionBreach: a breach is never left.
  What can be forced from a position, told without an arena.
  A contract in which all other parties are one: the same game.
-/
import Derived.Test.YtmoedieenlaegaaGreatDoorTO10
import Derived.Test.YtmoedieenlaegaaGreatDoorTO06
namespace Go.Proofs.YtmoedieenlaegaaGreatDoor
open Go.RowKit
set_option linter.unusedSimpArgs false
set_option linter.unusedVariables false
set_option maxRecDepth 100000
def noS:StateT:={day:=0,holders:=[],used:=[],marks:=[]}
def zhv (c:ContractT) (i:Nat) (a:ActT) (s r:StateT):Prop:=
  (a.kind≠1∧s.used[i]?=some true∧r=s)∨((a.kind=1∨s.used[i]?=some false)∧r.day=s.day∧r.holders=hs3 a s.holders∧r.used=us3 i a s.used∧StartP c (hs3 a s.holders) (ms3 c i a s.holders s.marks) r.marks)
def zfi (c:ContractT) (s r:StateT):Prop:=r.day=s.day+1∧r.holders=s.holders∧r.used=s.used∧StartP c s.holders (s.marks.mapIdx (atK c (jm (jE c.off s.day).isSome))) r.marks
theorem QA {b n:Nat} (h:n < 1000) (hb:b≤1000):mkN b (n:Int)=some n:=by
  unfold mkN
  have:n*b≤1000*1000:=Nat.mul_le_mul (by omega) hb
  rw [if_pos ⟨by omega,by omega,by omega⟩];simp
theorem JW {α:Type} {l d:List α} {k:Nat} (h:k=d.length) (h2:l.length=k):xa k d l=some l:=by unfold xa;rw [if_pos ⟨h,h2⟩]
theorem zf0 {α:Type} {l:List α} {i:Nat} {x y:α} (h:y∈l.set i x):y∈l∨y=x:=List.mem_or_eq_of_mem_set h
theorem zeD {c:ContractT} {s:StateT} {a:Int} (hc:c.Ok) (hv:VS c s) (h1 : -1≤a) (h2:a < c.acts.length) (hd:s.day < c.days) :
    Ret (d_Step c s a) (fun r=>r.2=0∧VS c r.1∧(a = -1→zfi c s r.1)∧(∀ (i:Nat) (x:ActT),a=(i:Int)→c.acts[i]?=some x→zhv c i x s r.1)):=by
  have ho:=hc.off.lt (by omega:0 < 8)
  have sm:=qM ho hv.cv
  have s1:=sm.holders
  have s2:=sm.acts
  have s3:=sm.clauses
  have sd:=sm.days
  have hlh:=hv.lh
  have hlu:=hv.lu
  have hlm:=hv.lm
  have hday:=hv.day
  have hmo:MOk c s.marks:=⟨hlm,fun i k m hk hm=>hv.mrk i k m hk hm⟩
  unfold d_Step
  have e1:decide (a < -1)=false:=decide_eq_false (by omega)
  have e2:decide ((c.acts.length:Int)≤a)=false:=decide_eq_false (by omega)
  refine Ret.bindE (v:=false) (by rw [JU c s hc,Kl hv,e1,e2];rfl) ?_
  refine Ret.ite (fun h=>by cases h) (fun _ => ?_)
  refine Ret.ite (fun h=>absurd (beq_iff_eq.1 h) (by omega)) (fun _ => ?_)
  refine Ret.bindE (QA (show s.holders.length < 1000 by omega) (by omega)) ?_
  refine Ret.bindE (QA (show s.used.length < 1000 by omega) (by omega)) ?_
  refine Ret.bindE (QA (show s.marks.length < 1000 by omega) (by omega)) ?_
  refine Ret.bindE (JW (by simp) rfl) ?_
  refine Ret.bindE (JW (by simp) rfl) ?_
  refine Ret.bindE (JW (by simp) rfl) ?_
  cases ht:(a == (-1:Int)) with
  | true=>
    have ha:=beq_iff_eq.1 ht
    simp only [cond_true]
    rw [zfY c s.day s.holders s.used s.marks ho hv.cv hmo (by omega)]
    have hmo2:MOk c (s.marks.mapIdx (atK c (jm (jE c.off s.day).isSome))):=hmo.mapIdx _ fun i k m hk h=>zeB _ (xw ho hv.cv hk) (by have:=sm.parties;omega) h
    refine Ret.bind (P:=fun v:List Int×List Bool×List MarkT×Int=>v.1=s.holders∧v.2.1=s.used∧v.2.2.2=s.day+1∧StartP c s.holders (s.marks.mapIdx (atK c (jm (jE c.off s.day).isSome))) v.2.2.1)
      (Ret.bind (Qz c (s.day+1) s.holders s.used _ ho hv.cv hlh hv.hold hmo2) fun r hr=>Ret.some ⟨rfl,rfl,qC (by omega) (by omega),hr⟩) ?_
    rintro ⟨v1,v2,v3,v4⟩ ⟨q1,q2,q3,q4⟩
    simp only at q1 q2 q3 q4
    subst q1;subst q2;subst q3
    have hl3:s.marks.length=v3.length:=by have:=q4.ok.1;omega
    simp only [ZB,wB hl3,Option.bind_some]
    refine Ret.some ⟨rfl,⟨hv.cv,⟨by show 0≤s.day+1;omega,by show s.day+1≤c.days;omega⟩,hlh,hlu,q4.ok.1,hv.hold,hv.used,q4.ok.2,q4.nr⟩,fun _=>⟨rfl,rfl,rfl,q4⟩,fun i x hi=>by omega⟩
  | false=>
    have ha:=beq_eq_false_iff_ne.1 ht
    obtain ⟨i,rfl⟩:∃ i:Nat,a=(i:Int):=⟨a.toNat,by omega⟩
    have hi:i < c.acts.length:=by omega
    have hx:=List.getElem?_eq_getElem hi
    generalize c.acts[i]=x at hx
    have av:=X7 hv.cv hx
    simp only [cond_false]
    rw [zhu c s.day s.holders s.used s.marks i x ho hv.cv hlh hlu hx hmo]
    have hiu:i < s.used.length:=by omega
    cases hearly:(!(x.kind == 1)&&s.used[i]?.getD false) with
    | true=>
      simp only [cond_true,Option.bind_some,ZB]
      refine Ret.some ⟨rfl,hv,fun h=>by omega,fun j y hj hy => ?_⟩
      obtain rfl:i=j:=by omega
      rw [hx] at hy;cases hy
      simp only [Bool.and_eq_true,Bool.not_eq_true',beq_eq_false_iff_ne,List.getElem?_eq_getElem hiu,Option.getD_some] at hearly
      exact .inl ⟨hearly.1,by rw [List.getElem?_eq_getElem hiu,hearly.2],rfl⟩
    | false=>
      simp only [cond_false]
      have hkd:=av.kind
      have hh3:(hs3 x s.holders).length=c.holders.length:=by unfold hs3;cases (x.kind == 1)<;>simp [hlh]
      have hu3:(us3 i x s.used).length=c.acts.length:=by unfold us3;cases (x.kind == 1)<;>simp [hlu]
      have hb3:∀ h∈hs3 x s.holders,0≤h∧h < c.parties:=by
        unfold hs3
        cases hk1:(x.kind == 1) with
        | true=>exact hv.hold
        | false=>
          intro h hh
          have:=hkd.resolve_left (beq_eq_false_iff_ne.1 hk1)
          rcases zf0 hh with h' | h'
          · exact hv.hold h h'
          · omega
      have hus3:∀ (j:Nat) (y:ActT),c.acts[j]?=some y→(us3 i x s.used)[j]?=some true→y.kind≠1:=by
        unfold us3
        cases hk1:(x.kind == 1) with
        | true=>exact hv.used
        | false=>
          intro j y hy hj
          simp only [cond_false] at hj
          rw [List.getElem?_set] at hj
          by_cases hij:i=j
          · subst hij
            rw [hx] at hy;cases hy
            exact beq_eq_false_iff_ne.1 hk1
          · rw [if_neg hij] at hj;exact hv.used j y hy hj
      refine Ret.bind (P:=fun v:List Int×List Bool×List MarkT×Int=>v.1=hs3 x s.holders∧v.2.1=us3 i x s.used∧v.2.2.2=s.day∧StartP c (hs3 x s.holders) (ms3 c i x s.holders s.marks) v.2.2.1)
        (Ret.bind (P:=fun v:List Int×List Bool×List MarkT=>v.1=hs3 x s.holders∧v.2.1=us3 i x s.used∧StartP c (hs3 x s.holders) (ms3 c i x s.holders s.marks) v.2.2) (Ret.bind (Qz c s.day _ (us3 i x s.used) _ ho hv.cv hh3 hb3 (zht ho hv.cv (by omega) av hmo)) fun r hr=>Ret.some ⟨rfl,rfl,hr⟩) fun v hv'=>Ret.some ⟨hv'.1,hv'.2.1,rfl,hv'.2.2⟩) ?_
      rintro ⟨v1,v2,v3,v4⟩ ⟨q1,q2,q3,q4⟩
      simp only at q1 q2 q3 q4
      subst q1;subst q2;subst q3
      have hl3:s.marks.length=v3.length:=by have:=q4.ok.1;omega
      simp only [wB (show s.holders.length=(hs3 x s.holders).length by omega),wB (show s.used.length=(us3 i x s.used).length by omega),wB hl3,Option.bind_some]
      refine Ret.some ⟨rfl,⟨hv.cv,hday,hh3,hu3,q4.ok.1,hb3,hus3,q4.ok.2,q4.nr⟩,fun h=>by omega,fun j y hj hy => ?_⟩
      obtain rfl:i=j:=by omega
      rw [hx] at hy;cases hy
      refine .inr ⟨?_,rfl,rfl,rfl,q4⟩
      simp only [Bool.and_eq_false_iff,Bool.not_eq_false',beq_iff_eq,List.getElem?_eq_getElem hiu,Option.getD_some] at hearly
      rcases hearly with h | h
      · exact .inl h
      · exact .inr (by rw [List.getElem?_eq_getElem hiu,h])
noncomputable def jn (c:ContractT) (s:StateT) (a:Int):StateT:=((d_Step c s a).getD (noS,1)).1
theorem vg {c:ContractT} {s:StateT} {a:Int} (hc:c.Ok) (hv:VS c s) (h1 : -1≤a) (h2:a < c.acts.length) (hd:s.day < c.days) :
    d_Step c s a=some (jn c s a,0)∧VS c (jn c s a)∧(a = -1→zfi c s (jn c s a))∧(∀ (i:Nat) (x:ActT),a=(i:Int)→c.acts[i]?=some x→zhv c i x s (jn c s a)):=by
  obtain ⟨⟨r1,r2⟩,e,h⟩:=zeD hc hv h1 h2 hd
  have e2:jn c s a=r1:=by unfold jn;rw [e];rfl
  rw [e2,e]
  obtain ⟨h0,h⟩:=h
  simp only at h0 h
  subst h0
  exact ⟨rfl,h⟩
theorem WN {α:Type} [BEq α] [LawfulBEq α] {f:Nat→Unit→Option (Unit ⊕ Unit)} (a b:List α) (hl:a.length=b.length) (ha:a.length < 4611686018427387904) (h:∀ (i:Nat) (h1:i < a.length) (h2:i < b.length),f i ()=some (bif a[i] == b[i] then .inl () else .inr ())) :
    forR (a.length:Int) f ()=some (bif a == b then .inl () else .inr ()):=by
  rw [kn (fun i=>a[i]? == b[i]?) ha (fun i hi=>by
    rw [h i hi (by omega),List.getElem?_eq_getElem hi,List.getElem?_eq_getElem (show i < b.length by omega)]
    show _=some (bif (some a[i] == some b[i]) then _ else _)
    rfl)]
  congr 2
  rw [Bool.eq_iff_iff,List.all_eq_true]
  constructor
  · intro hh
    rw [beq_iff_eq]
    refine List.ext_getElem? fun i => ?_
    by_cases hi:i < a.length
    · exact beq_iff_eq.1 (hh i (List.mem_range.2 hi))
    · rw [List.getElem?_eq_none (by omega),List.getElem?_eq_none (by omega)]
  · intro hh i _
    rw [beq_iff_eq.1 hh];exact beq_self_eq_true _
theorem WO {α:Type} (a b:List α):((a.length:Int) == (b.length:Int))=decide (a.length=b.length):=by
  by_cases h:a.length=b.length
  · simp [h]
  · simp only [h,decide_false];exact beq_eq_false_iff_ne.2 (by omega)
theorem zi7 (a b:List Int) (ha:a.length < 4611686018427387904):Ye a b=some (a == b):=by
  unfold Ye
  rw [WO]
  by_cases h:a.length=b.length
  · simp only [h,decide_true,cond_true]
    rw [←h,WN a b h ha (fun i h1 h2=>by
      simp only [qk,List.getElem?_eq_getElem h1,List.getElem?_eq_getElem h2,Option.bind_some,zo])]
    cases (a == b)<;>rfl
  · simp only [h,decide_false,cond_false]
    have:a≠b:=fun e=>h (by rw [e])
    rw [beq_eq_false_iff_ne.2 this]
theorem zi8 (a b:List Bool) (ha:a.length < 4611686018427387904):Yf a b=some (a == b):=by
  unfold Yf
  rw [WO]
  by_cases h:a.length=b.length
  · simp only [h,decide_true,cond_true]
    rw [←h,WN a b h ha (fun i h1 h2=>by
      simp only [qk,List.getElem?_eq_getElem h1,List.getElem?_eq_getElem h2,Option.bind_some,zo])]
    cases (a == b)<;>rfl
  · simp only [h,decide_false,cond_false]
    have:a≠b:=fun e=>h (by rw [e])
    rw [beq_eq_false_iff_ne.2 this]
instance:BEq MarkT:=⟨fun a b=>(a.status == b.status)&&((a.left == b.left)&&((a.got == b.got)&&((a.bearer == b.bearer)&&((a.paused == b.paused)&&true))))⟩
instance:LawfulBEq MarkT where
  eq_of_beq {a b} h:=by
    have h':((a.status == b.status)&&((a.left == b.left)&&((a.got == b.got)&&((a.bearer == b.bearer)&&((a.paused == b.paused)&&true)))))=true:=h
    simp only [Bool.and_eq_true,beq_iff_eq,and_true] at h'
    obtain ⟨h1,h2,h3,h4,h5⟩:=h'
    cases a;cases b;simp_all
  rfl {a}:=by
    show ((a.status == a.status)&&((a.left == a.left)&&((a.got == a.got)&&((a.bearer == a.bearer)&&((a.paused == a.paused)&&true)))))=true
    simp
theorem zi9 (a b:List MarkT) (ha:a.length < 4611686018427387904):Yg a b=some (a == b):=by
  unfold Yg
  rw [WO]
  by_cases h:a.length=b.length
  · simp only [h,decide_true,cond_true]
    rw [←h,WN a b h ha (fun i h1 h2=>by
      simp only [qk,List.getElem?_eq_getElem h1,List.getElem?_eq_getElem h2,Option.bind_some,zo];rfl)]
    cases (a == b)<;>rfl
  · simp only [h,decide_false,cond_false]
    have:a≠b:=fun e=>h (by rw [e])
    rw [beq_eq_false_iff_ne.2 this]
def wC (a b:StateT):Bool:=a.day == b.day&&(a.holders == b.holders&&(a.used == b.used&&a.marks == b.marks))
theorem kp {a b:StateT}:wC a b=true↔a=b:=by
  unfold wC
  simp only [Bool.and_eq_true,beq_iff_eq]
  constructor
  · rintro ⟨h1,h2,h3,h4⟩
    cases a;cases b;simp_all
  · rintro rfl;exact ⟨rfl,rfl,rfl,rfl⟩
theorem zf1 (a b:StateT) (h1:a.holders.length < 4611686018427387904) (h2:a.used.length < 4611686018427387904) (h3:a.marks.length < 4611686018427387904):wW a b=some (wC a b):=by
  unfold wW wC
  rw [zi7 _ _ h1,zi8 _ _ h2,zi9 _ _ h3]
  simp only [Option.bind_some,zo,Bool.cond_false_right]
theorem VS.few {c:ContractT} {s:StateT} (hc:c.Ok) (h:VS c s):s.holders.length≤12∧s.used.length≤60∧s.marks.length≤400:=by
  have sm:=qM (hc.off.lt (by omega)) h.cv
  have:=sm.holders
  have:=sm.acts
  have:=sm.clauses
  have:=h.lh
  have:=h.lu
  have:=h.lm
  omega
theorem Kp {c:ContractT} {s:StateT} (hc:c.Ok) (h:VS c s):jO s=some s:=by
  have:=h.few hc
  unfold jO
  rw [km (by omega),km (by omega),km (by omega)]
  rfl
noncomputable def ZC (c:ContractT) (party:Int) (s:StateT):Bool:=decide (0≤party)&&(decide (party < c.parties)&&vsB c s)
theorem Wa {c:ContractT} (hc:c.Ok) (party:Int) (p:PosT):jN c party p=some (ZC c party p.state):=by
  unfold jN ZC
  rw [JU c _ hc]
  simp only [Option.bind_some,zo,Bool.cond_false_right]
theorem QB {c:ContractT} {party:Int} {s:StateT}:ZC c party s=true↔0≤party∧party < c.parties∧VS c s:=by
  simp only [ZC,Bool.and_eq_true,decide_eq_true_eq]
  exact ⟨fun ⟨a,b,d⟩=>⟨a,b,zi6 d⟩,fun ⟨a,b,d⟩=>⟨a,b,Kl d⟩⟩
noncomputable def mvB (c:ContractT) (party:Int) (p:PosT) (i:Nat):Bool:=match c.acts[i]? with
  | some a=>((qS p.state.holders a == party) == p.own) && !wC (jn c p.state i) p.state
  | none=>false
noncomputable def q6 (c:ContractT) (party:Int) (p:PosT) (n:Nat):List Int:=((List.range n).filter (mvB c party p)).map fun i:Nat=>(i:Int)
noncomputable def zA (c:ContractT) (party:Int) (p:PosT):List Int:=
  (bif p.own then [-2] else [])++(bif decide (c.days≤p.state.day) then [] else (bif p.own then [] else [-1])++q6 c party p c.acts.length)
noncomputable def target (c:ContractT) (p:PosT) (move:Int):PosT:=if move = -2 then {state:=p.state,own:=false} else {state:=jn c p.state move,own:=true}
theorem yg (c:ContractT) (party:Int) (p:PosT) (n:Nat):q6 c party p (n+1)=q6 c party p n++(bif mvB c party p n then [(n:Int)] else []):=by
  unfold q6
  rw [List.range_succ,List.filter_append,List.map_append]
  congr 1
  cases h:mvB c party p n<;>simp [h]
theorem VE (c:ContractT) (party:Int) (p:PosT) (n:Nat):(q6 c party p n).length≤n:=by
  unfold q6
  rw [List.length_map]
  have:=List.length_filter_le (mvB c party p) (List.range n)
  simpa using this
theorem zeE {c:ContractT} {s:StateT} {a:ActT} (hv:VS c s) (av:AV2 c a):(bif a.role == (-1) then some (-1) else (Option.bind (ze s.holders a.role) fun e2=>some e2))=some (qS s.holders a):=by
  unfold qS
  cases hr:(a.role == (-1:Int)) with
  | true=>rfl
  | false=>
    have h1:=beq_eq_false_iff_ne.1 hr
    have:=av.role
    have:=hv.lh
    obtain ⟨h2,h3⟩:=qw (l:=s.holders) (n:=a.role) (by omega) (by omega)
    rw [h3,List.getElem?_eq_getElem h2];rfl
theorem zeF {c:ContractT} {party:Int} {p:PosT} {n:Nat} {x:Int}:x∈q6 c party p n↔∃ i:Nat,i < n∧mvB c party p i=true∧x=(i:Int):=by
  unfold q6
  simp only [List.mem_map,List.mem_filter,List.mem_range]
  constructor
  · rintro ⟨i,⟨a,b⟩,rfl⟩;exact ⟨i,a,b,rfl⟩
  · rintro ⟨i,a,b,rfl⟩;exact ⟨i,⟨a,b⟩,rfl⟩
theorem wh {c:ContractT} {party:Int} {p:PosT} {x:Int}:x∈zA c party p↔(p.own=true∧x = -2)∨(p.state.day < c.days∧p.own=false∧x = -1)∨(p.state.day < c.days∧∃ i:Nat,i < c.acts.length∧mvB c party p i=true∧x=(i:Int)):=by
  unfold zA
  by_cases hd:c.days≤p.state.day
  · have:¬ p.state.day < c.days:=by omega
    simp only [hd,decide_true,cond_true,List.append_nil,this,false_and,or_false]
    cases p.own<;>simp
  · have:p.state.day < c.days:=by omega
    simp only [hd,decide_false,cond_false,List.mem_append,zeF,this,true_and]
    cases p.own<;>simp
def Kq (c:ContractT) (n:Int):Bool:=
  !(decide (20 < (c.holders.length:Int))||(decide (30 < (c.units.length:Int))||(decide (70 < (c.acts.length:Int))||(decide (n < (c.clauses.length:Int))||decide (100 < (c.off.length:Int))))))&&c.clauses.all (fun k=>!decide (20 < (k.start.length:Int)))
theorem zdy (c:ContractT) (n:Int) (hc:c.clauses.length < 4611686018427387904):kj c n=some (Kq c n):=by
  unfold kj Kq
  rw [wX (l:=c.clauses) (fun k=>!decide (20 < (k.start.length:Int))) hc (fun i hi=>by
    simp only [qk,List.getElem?_eq_getElem hi,Option.bind_some]
    cases decide (20 < (c.clauses[i].start.length:Int))<;>rfl)]
  simp only [zo,Option.bind_some,Bool.cond_true_left]
  cases (decide (20 < (c.holders.length:Int))||(decide (30 < (c.units.length:Int))||(decide (70 < (c.acts.length:Int))||(decide (n < (c.clauses.length:Int))||decide (100 < (c.off.length:Int)))))) <;>
    cases c.clauses.all (fun k=>!decide (20 < (k.start.length:Int)))<;>rfl
def Yh (c:ContractT):Bool:=Kq c 6&&(decide ((c.acts.length:Int)≤8)&&decide (c.days≤20))
theorem zhw {c:ContractT} (hc:c.Ok):X1 c=some (Yh c):=by
  unfold X1 Yh
  rw [zdy c 6 (hc.clauses.lt (by omega))]
  simp only [zo,Option.bind_some,Bool.cond_false_right]
theorem vG {d:Nat} (h:d < 10):(UInt8.ofNat (48+d)).toNat=48+d:=by
  rw [UInt8.toNat_ofNat'];omega
theorem QC:∀ (u:Nat),∀ b∈Lib.decDigits u,48≤b.toNat∧b.toNat≤57:=by
  intro u
  induction u using Nat.strongRecOn with
  | _ u ih=>
    intro b hb
    rw [Lib.decDigits] at hb
    by_cases h:u < 10
    · rw [dif_pos h] at hb
      simp only [List.mem_singleton] at hb
      subst hb
      rw [vG h];omega
    · rw [dif_neg h] at hb
      rcases List.mem_append.1 hb with hb | hb
      · exact ih (u / 10) (by omega) b hb
      · simp only [List.mem_singleton] at hb
        subst hb
        rw [vG (by omega)];omega
def QD (l:List UInt8):Nat:=l.foldl (fun a b=>a*10+(b.toNat - 48)) 0
theorem yh:∀ (u:Nat),QD (Lib.decDigits u)=u:=by
  intro u
  induction u using Nat.strongRecOn with
  | _ u ih=>
    rw [Lib.decDigits]
    by_cases h:u < 10
    · rw [dif_pos h]
      simp only [QD,List.foldl_cons,List.foldl_nil,vG h];omega
    · rw [dif_neg h]
      have:=ih (u / 10) (by omega)
      unfold QD at this ⊢
      rw [List.foldl_append,this]
      simp only [List.foldl_cons,List.foldl_nil,vG (show u % 10 < 10 by omega)];omega
theorem zeG {a b:Int} (h:Lib.itoa a=Lib.itoa b):a=b:=by
  have key:∀ (u v:Nat),45::Lib.decDigits u=Lib.decDigits v→False:=by
    intro u v h
    have:=QC v 45 (by rw [←h];exact List.mem_cons_self)
    have e:(45:UInt8).toNat=45:=rfl
    omega
  unfold Lib.itoa at h
  by_cases ha:a < 0
  · by_cases hb:b < 0
    · rw [if_pos ha,if_pos hb] at h
      have h1:=congrArg QD (List.cons.inj h).2
      rw [yh,yh] at h1
      omega
    · rw [if_pos ha,if_neg hb] at h
      exact (key _ _ h).elim
  · by_cases hb:b < 0
    · rw [if_neg ha,if_pos hb] at h
      exact (key _ _ h.symm).elim
    · rw [if_neg ha,if_neg hb] at h
      have h1:=congrArg QD h
      rw [yh,yh] at h1
      omega
theorem VF (n:Int):∀ b∈Lib.itoa n,b≠32:=by
  intro b hb e
  subst e
  have e:(32:UInt8).toNat=32:=rfl
  unfold Lib.itoa at hb
  split at hb
  · rcases List.mem_cons.1 hb with h | h
    · exact absurd h (by decide)
    · have:=QC _ _ h;omega
  · have:=QC _ _ hb;omega
def PI {α:Type} (f:α→List UInt8):Prop:=∀ (a b:α) (xs ys:List UInt8),f a++xs=f b++ys→a=b∧xs=ys
theorem zaJ:∀ {a b xs ys:List UInt8},(∀ x∈a,x≠32)→(∀ x∈b,x≠32)→a++32::xs=b++32::ys→a=b∧xs=ys
  | [],[],xs,ys,_,_,h=>⟨rfl,(List.cons.inj h).2⟩
  | [],y::b,xs,ys,_,hb,h=>absurd (List.cons.inj h).1.symm (hb y List.mem_cons_self)
  | x::a,[],xs,ys,ha,_,h=>absurd (List.cons.inj h).1 (ha x List.mem_cons_self)
  | x::a,y::b,xs,ys,ha,hb,h=>by
    obtain ⟨h1,h2⟩:=List.cons.inj h
    obtain ⟨h3,h4⟩:=zaJ (a:=a) (b:=b) (fun z hz=>ha z (List.mem_cons_of_mem _ hz)) (fun z hz=>hb z (List.mem_cons_of_mem _ hz)) h2
    exact ⟨by rw [h1,h3],h4⟩
theorem kV:PI zO:=fun a b xs ys h=>by
  unfold zO at h
  rw [List.append_assoc,List.append_assoc] at h
  obtain ⟨h1,h2⟩:=zaJ (VF a) (VF b) h
  exact ⟨zeG h1,h2⟩
theorem WP:PI qe:=fun a b xs ys h=>by
  unfold qe at h
  obtain ⟨h1,h2⟩:=List.cons.inj h
  refine ⟨?_,h2⟩
  cases a<;>cases b<;>first | rfl | exact absurd h1 (by decide)
theorem zf2:PI jy:=fun a b xs ys h=>by
  unfold jy at h
  simp only [List.append_assoc] at h
  obtain ⟨h1,h⟩:=kV _ _ _ _ h
  obtain ⟨h2,h⟩:=kV _ _ _ _ h
  obtain ⟨h3,h⟩:=kV _ _ _ _ h
  obtain ⟨h4,h⟩:=kV _ _ _ _ h
  obtain ⟨h5,h6⟩:=WP _ _ _ _ h
  refine ⟨?_,h6⟩
  clear h6 h
  cases a;cases b
  simp only at h1 h2 h3 h4 h5
  subst h1;subst h2;subst h3;subst h4;subst h5
  rfl
theorem Jb {α:Type} {f:α→List UInt8} (hf:PI f):∀ {l m:List α} {xs ys:List UInt8},l.length=m.length→l.flatMap f++xs=m.flatMap f++ys→l=m∧xs=ys
  | [],[],_,_,_,h=>⟨rfl,h⟩
  | [],_::_,_,_,hl,_=>by simp at hl
  | _::_,[],_,_,hl,_=>by simp at hl
  | a::l,b::m,xs,ys,hl,h=>by
    rw [List.flatMap_cons,List.flatMap_cons,List.append_assoc,List.append_assoc] at h
    obtain ⟨h1,h⟩:=hf _ _ _ _ h
    obtain ⟨h2,h⟩:=Jb hf (by simpa using hl) h
    exact ⟨by rw [h1,h2],h⟩
theorem zeH {c:ContractT} {p q:PosT} (hp:VS c p.state) (hq:VS c q.state) (h:z6 p=z6 q):p=q:=by
  unfold z6 at h
  simp only [List.append_assoc] at h
  obtain ⟨h1,h⟩:=WP _ _ _ _ h
  obtain ⟨h2,h⟩:=kV _ _ _ _ h
  obtain ⟨h3,h⟩:=Jb kV (by rw [hp.lh,hq.lh]) h
  obtain ⟨h4,h⟩:=Jb WP (by rw [hp.lu,hq.lu]) h
  have h5:=(Jb (l:=p.state.marks) (m:=q.state.marks) (xs:=[]) (ys:=[]) zf2 (by rw [hp.lm,hq.lm]) (by rw [List.append_nil,List.append_nil];exact h)).1
  clear h
  obtain ⟨⟨d,hs,us,ms⟩,o⟩:=p
  obtain ⟨⟨d',hs',us',ms'⟩,o'⟩:=q
  simp only at h1 h2 h3 h4 h5
  subst h1;subst h2;subst h3;subst h4;subst h5;rfl
theorem ZD {α:Type} {f:α→List UInt8} {b:Nat}:∀ {l:List α},(∀ a∈l,(f a).length≤b)→(l.flatMap f).length≤l.length*b
  | [],_=>by simp
  | a::l,h=>by
    have h1:=h a List.mem_cons_self
    have h2:=ZD (f:=f) (b:=b) (l:=l) fun x hx=>h x (List.mem_cons_of_mem _ hx)
    rw [List.flatMap_cons,List.length_append,List.length_cons,Nat.succ_mul];omega
theorem zhx {c:ContractT} {i:Nat} {k:ClauseT} {m:MarkT} (kv:KV c i k) (hp:c.parties≤12) (h:qN c.parties k m=true):(0≤m.status∧m.status≤5)∧(0≤m.left∧m.left≤400)∧(0≤m.got∧m.got≤9)∧(-1≤m.bearer∧m.bearer≤12):=by
  have hn:=kv.need
  rcases ju.1 h with ⟨h0,_,h1⟩ | ⟨h0,h1,h2⟩ | ⟨h0,h1,h2,h3⟩ | ⟨h0,h1⟩
  · simp only [X6,Bool.and_eq_true,beq_iff_eq] at h1
    omega
  · have hr:qv m=true:=by simp [qv,h0]
    obtain ⟨rv,_,_⟩:=xx kv h hr
    have:=rv.left;have:=rv.got;have:=rv.bearer
    omega
  · have hr:qv m=true:=by simp [qv,h0]
    obtain ⟨rv,_,_⟩:=xx kv h hr
    have:=rv.left;have:=rv.got;have:=rv.bearer
    omega
  · simp only [Kk,Bool.and_eq_true,beq_iff_eq,decide_eq_true_eq] at h1
    omega
theorem vi {n:Int} (h0 : -1000000≤n) (h1:n≤1000000):xc n=true:=by
  simp only [xc,Bool.and_eq_true,decide_eq_true_eq];omega
theorem yp {n:Int} (h0 : -1000000≤n) (h1:n≤1000000):(zO n).length≤22:=by
  have:=Lib.itoa_length_le n (by omega) (by omega)
  simp only [zO,List.length_append,List.length_cons,List.length_nil];omega
def txt (p:PosT):ByteArray:=⟨(z6 p).toArray⟩
theorem zaK {c:ContractT} {p q:PosT} (hp:VS c p.state) (hq:VS c q.state) (h:txt p=txt q):p=q:=by
  refine zeH hp hq ?_
  unfold txt at h
  have h2:=congrArg (fun b:ByteArray=>b.data.toList) h
  simpa using h2
theorem zdz {c:ContractT} (hc:c.Ok) {p:PosT} (hp:VS c p.state):ja p=some (txt p):=by
  have ho:=hc.off.lt (by omega:0 < 8)
  have sm:=qM ho hp.cv
  have hpa:=sm.parties
  have hda:=sm.days
  have hday:=hp.day
  have hf:=hp.few hc
  have hh:∀ h∈p.state.holders,-1000000≤h∧h≤1000000:=fun h hh=>by have:=hp.hold h hh;omega
  have hm:∀ m∈p.state.marks,(0≤m.status∧m.status≤5)∧(0≤m.left∧m.left≤400)∧(0≤m.got∧m.got≤9)∧(-1≤m.bearer∧m.bearer≤12):=fun m hm=>by
    obtain ⟨i,hi,rfl⟩:=List.getElem_of_mem hm
    have hk:=List.getElem?_eq_getElem (show i < c.clauses.length by have:=hp.lm;omega)
    exact zhx (xw ho hp.cv hk) (by omega) (hp.mrk i _ _ hk (List.getElem?_eq_getElem hi))
  have hlen:(z6 p).length≤1000000000:=by
    have h1:=yp (n:=p.state.day) (by omega) (by omega)
    have h2:=ZD (f:=zO) (b:=22) (l:=p.state.holders) fun h hh'=>yp (hh h hh').1 (hh h hh').2
    have h3:=ZD (f:=qe) (b:=1) (l:=p.state.used) fun _ _=>by simp [qe]
    have h4:=ZD (f:=jy) (b:=89) (l:=p.state.marks) fun m hm'=>by
      have:=hm m hm'
      have a1:=yp (n:=m.status) (by omega) (by omega)
      have a2:=yp (n:=m.left) (by omega) (by omega)
      have a3:=yp (n:=m.got) (by omega) (by omega)
      have a4:=yp (n:=m.bearer) (by omega) (by omega)
      simp only [jy,qe,List.length_append,List.length_cons,List.length_nil];omega
    simp only [z6,List.length_append]
    have:(qe p.own).length=1:=rfl
    omega
  have hok:okP p=true:=by
    simp only [okP,Bool.and_eq_true,decide_eq_true_eq,List.all_eq_true]
    refine ⟨⟨⟨vi (by omega) (by omega),fun x hx=>vi (hh x hx).1 (hh x hx).2⟩,fun m hm' => ?_⟩,hlen⟩
    have:=hm m hm'
    exact ⟨⟨⟨vi (by omega) (by omega),vi (by omega) (by omega)⟩,vi (by omega) (by omega)⟩,vi (by omega) (by omega)⟩
  unfold ja txt
  rw [if_pos hok]
instance:BEq PosT:=⟨fun a b=>a.own == b.own&&wC a.state b.state⟩
instance:LawfulBEq PosT where
  eq_of_beq {a b} h:=by
    have h':(a.own == b.own&&wC a.state b.state)=true:=h
    simp only [Bool.and_eq_true,beq_iff_eq,kp] at h'
    obtain ⟨h1,h2⟩:=h'
    cases a;cases b;simp_all
  rfl {a}:=by
    show (a.own == a.own&&wC a.state a.state)=true
    simp [kp.2 rfl]
noncomputable instance:DecidableEq PosT:=fun a b=>if h:(a == b)=true then isTrue (eq_of_beq h) else isFalse fun e=>h (beq_iff_eq.2 e)
def kW (q:PosT) (L:List PosT):Option Int:=if q∈L then some (L.idxOf q:Int) else none
def visit (L:List PosT) (q:PosT):Option (Int×List PosT):=if q∈L then some ((L.idxOf q:Int),L) else if L.length=1500 then none else some ((L.length:Int),L++[q])
def Kr (L:List PosT) (F:List (ByteArray×Int)) (q:PosT):List (ByteArray×Int):=if q∈L then F else qh (txt q) (L.length:Int) F
def FRel (c:ContractT) (F:List (ByteArray×Int)) (L:List PosT):Prop:=∀ q:PosT,VS c q.state→zy (txt q) F=kW q L
theorem kX {α β:Type} [DecidableEq α] (k:α) (v:β):∀ l:List (α×β),zy k (qh k v l)=some v
  | []=>by simp [qh,zy]
  | (k',v')::r=>by
    unfold qh
    split
    · simp [zy]
    · rename_i h;simp only [zy,h,if_false];exact kX k v r
theorem QE {α β:Type} [DecidableEq α] {k k2:α} (v:β) (h:k2≠k):∀ l:List (α×β),zy k2 (qh k v l)=zy k2 l
  | []=>by simp [qh,zy,h]
  | (k',v')::r=>by
    unfold qh
    split
    · rename_i e;subst e;simp only [zy,h,if_false]
    · by_cases h2:k2=k'
      · simp only [zy,h2,if_true]
      · simp only [zy,h2,if_false];exact QE v h r
theorem zai {q q':PosT} {L:List PosT} (hq:q ∉ L):kW q' (L++[q])=if q'=q then some (L.length:Int) else kW q' L:=by
  unfold kW
  by_cases h:q'=q
  · subst h
    rw [if_pos (by simp),if_pos rfl,List.idxOf_append,if_neg hq]
    simp
  · rw [if_neg h]
    by_cases hm:q'∈L
    · rw [if_pos (by simp [hm]),if_pos hm,List.idxOf_append,if_pos hm]
    · rw [if_neg (by simp [hm,h]),if_neg hm]
theorem FRel.visit {c:ContractT} {F:List (ByteArray×Int)} {L L':List PosT} {q:PosT} {to:Int} (h:FRel c F L) (hq:VS c q.state) (hv:visit L q=some (to,L')):FRel c (Kr L F q) L':=by
  unfold Go.Proofs.YtmoedieenlaegaaGreatDoor.visit at hv
  unfold Kr
  by_cases hm:q∈L
  · rw [if_pos hm] at hv ⊢; cases hv;exact h
  · rw [if_neg hm] at hv ⊢
    split at hv
    · cases hv
    · cases hv
      intro q' hq'
      rw [zai hm]
      by_cases e:q'=q
      · subst e;rw [kX,if_pos rfl]
      · rw [QE _ (fun h2=>e (zaK hq' hq h2)),if_neg e,h q' hq']
theorem zeI {c:ContractT} {F:List (ByteArray×Int)} {L:List PosT} {q:PosT} (h:FRel c F L) (hq:VS c q.state) (hl:L.length≤1500) :
    (bif ((zy (txt q) F).isSome) then some (.inl (((zy (txt q) F).getD 0),L,F)) else (bif ((L.length:Int) == 1500) then some (.inr ()) else (Option.bind (zT (α:=PosT) 88 L [q]) fun e2=>some (.inl ((L.length:Int),e2,(qh (txt q) (L.length:Int) F)))))) =
      some (match visit L q with | some (to,L')=>(.inl (to,L',Kr L F q):(Int×(List PosT)×(List (ByteArray×Int))) ⊕ Unit) | none=>.inr ()):=by
  rw [h q hq]
  unfold kW visit Kr
  by_cases hm:q∈L
  · simp only [hm,if_true,Option.isSome_some,cond_true,Option.getD_some]
  · simp only [hm,if_false,Option.isSome_none,cond_false]
    by_cases h2:L.length=1500
    · have:((L.length:Int) == 1500)=true:=beq_iff_eq.2 (by omega)
      simp only [h2,if_true];rfl
    · have:((L.length:Int) == 1500)=false:=beq_eq_false_iff_ne.2 (by omega)
      simp only [h2,if_false,this,cond_false]
      rw [kQ (by simp;omega)];rfl
noncomputable def jG (c:ContractT) (e:PosT):List Int→List PosT×List MoveT→Option (List PosT×List MoveT)
  | [],s=>some s
  | m::ms,(L,K)=>match visit L (target c e m) with
    | none=>none
    | some (to,L')=>jG c e ms (L',K++[{step:=m,to:=to}])
theorem kD (c:ContractT) (e:PosT):∀ (a b:List Int) (s:List PosT×List MoveT),jG c e (a++b) s=(jG c e a s).bind (jG c e b)
  | [],b,s=>rfl
  | m::a,b,(L,K)=>by
    simp only [List.cons_append,jG]
    cases visit L (target c e m) with
    | none=>rfl
    | some x=>exact kD c e a b _
def JX:Nat→List MoveT→Option Nat
  | n,[]=>some n
  | n,t::r=>if 0≤t.to∧t.to≤(n:Int) then JX (if t.to=(n:Int) then n+1 else n) r else none
def vX:Nat→Nat→List (List MoveT)→Option Nat
  | i,n,[]=>some n
  | i,n,l::r=>if i < n then (JX n l).bind fun n'=>vX (i+1) n' r else none
theorem Jw (l:List MoveT):∀ (M:List (List MoveT)) (i n:Nat),vX i n (M++[l])=(vX i n M).bind fun n'=>if i+M.length < n' then JX n' l else none
  | [],i,n=>by
    simp only [List.nil_append,vX,Option.bind_some,List.length_nil,Nat.add_zero]
    split
    · cases JX n l<;>rfl
    · rfl
  | x::M,i,n=>by
    simp only [List.cons_append,vX,List.length_cons]
    split
    · cases JX n x with
      | none=>rfl
      | some n'=>
        simp only [Option.bind_some]
        rw [Jw l M (i+1) n',show i+1+M.length=i+(M.length+1) by omega]
    · rfl
inductive Rch (c:ContractT) (party:Int) (p0:PosT):PosT→Prop where
  | base:Rch c party p0 p0
  | step {q:PosT} {m:Int} (h:Rch c party p0 q) (hm:m∈zA c party q):Rch c party p0 (target c q m)
theorem vY {c:ContractT} (hc:c.Ok) {party:Int} {e:PosT} {m:Int} (he:VS c e.state) (hm:m∈zA c party e):VS c (target c e m).state:=by
  unfold target
  by_cases h2:m = -2
  · rw [if_pos h2];exact he
  · rw [if_neg h2]
    rcases wh.1 hm with h | ⟨hd,_,rfl⟩ | ⟨hd,i,hi,_,rfl⟩
    · exact absurd h.2 h2
    · exact (vg hc he (by omega) (by omega) hd).2.1
    · exact (vg hc he (by omega) (by omega) hd).2.1
structure PInv (c:ContractT) (party:Int) (p0:PosT) (L:List PosT):Prop where
  vs:∀ q∈L,VS c q.state
  nd:L.Nodup
  rch:∀ q∈L,Rch c party p0 q
  len:L.length≤1500
theorem VG {c:ContractT} {party:Int} {p0 q:PosT} {L L':List PosT} {to:Int} (h:PInv c party p0 L) (hq:VS c q.state) (hr:Rch c party p0 q) (hv:visit L q=some (to,L')) :
    PInv c party p0 L'∧(∃ r,L'=L++r)∧0≤to∧L'[to.toNat]?=some q∧to≤(L.length:Int)∧L'.length=(if to=(L.length:Int) then L.length+1 else L.length):=by
  unfold visit at hv
  by_cases hm:q∈L
  · rw [if_pos hm] at hv;cases hv
    have hi:=List.idxOf_lt_length_iff.2 hm
    refine ⟨h,⟨[],by simp⟩,by omega,?_,by omega,by rw [if_neg (by omega)]⟩
    rw [Int.toNat_natCast,List.getElem?_eq_getElem hi,List.getElem_idxOf hi]
  · rw [if_neg hm] at hv
    split at hv
    · cases hv
    · rename_i hl
      cases hv
      have hlen:=h.len
      refine ⟨⟨fun x hx => ?_,?_,fun x hx => ?_,by simp;omega⟩,⟨[q],rfl⟩,by omega,by simp,Int.le_refl _,by simp⟩
      · rcases List.mem_append.1 hx with hx | hx
        · exact h.vs x hx
        · rw [List.mem_singleton.1 hx];exact hq
      · exact List.nodup_append.2 ⟨h.nd,by simp,fun a ha b hb=>by rw [List.mem_singleton.1 hb];exact fun e=>hm (e ▸ ha)⟩
      · rcases List.mem_append.1 hx with hx | hx
        · exact h.rch x hx
        · rw [List.mem_singleton.1 hx];exact hr
theorem zdA {L:List PosT} {q:PosT} (hv:visit L q=none):q ∉ L:=by
  unfold visit at hv
  split at hv
  · cases hv
  · assumption
theorem zbQ {L:List PosT} {q:PosT} (hv:visit L q=none):L.length=1500:=by
  unfold visit at hv
  split at hv
  · cases hv
  · split at hv
    · rename_i h;exact h
    · cases hv
def MvOk (c:ContractT) (party:Int) (L:List PosT) (e:PosT) (ms:List Int) (T:List MoveT):Prop:=T.map (·.step)=ms∧∀ t∈T,0≤t.to∧L[t.to.toNat]?=some (target c e t.step)
theorem Jc {α:Type} {L r:List α} {i:Nat} {x:α} (h:L[i]?=some x):(L++r)[i]?=some x:=by
  rw [List.getElem?_append_left (List.getElem?_eq_some_iff.1 h).1];exact h
theorem MvOk.app {c:ContractT} {party:Int} {L:List PosT} {e:PosT} {ms:List Int} {T:List MoveT} (h:MvOk c party L e ms T) (r:List PosT):MvOk c party (L++r) e ms T:=
  ⟨h.1,fun t ht=>⟨(h.2 t ht).1,Jc (h.2 t ht).2⟩⟩
theorem JY {c:ContractT} (hc:c.Ok) {party:Int} {p0 e:PosT} (he:VS c e.state) (hr:Rch c party p0 e):∀ (ms:List Int) (L L':List PosT) (K K':List MoveT),(∀ m∈ms,m∈zA c party e)→PInv c party p0 L→jG c e ms (L,K)=some (L',K') →
    PInv c party p0 L'∧(∃ r,L'=L++r)∧∃ T,K'=K++T∧MvOk c party L' e ms T∧JX L.length T=some L'.length
  | [],L,L',K,K',_,h,hp=>by
    cases hp
    exact ⟨h,⟨[],by simp⟩,[],by simp,⟨rfl,fun t ht=>by cases ht⟩,rfl⟩
  | m::ms,L,L',K,K',hms,h,hp=>by
    simp only [jG] at hp
    have hm:=hms m List.mem_cons_self
    cases hv:visit L (target c e m) with
    | none=>rw [hv] at hp;cases hp
    | some x=>
      obtain ⟨to,L1⟩:=x
      rw [hv] at hp
      obtain ⟨h1,⟨r1,e1⟩,t0,tq,tl,tn⟩:=VG h (vY hc he hm) (.step hr hm) hv
      obtain ⟨h2,⟨r2,e2⟩,T,eT,hT,hch⟩:=JY hc he hr ms L1 L' _ K' (fun x hx=>hms x (List.mem_cons_of_mem _ hx)) h1 hp
      refine ⟨h2,⟨r1++r2,by rw [e2,e1,List.append_assoc]⟩,{step:=m,to:=to}::T,by rw [eT];simp,⟨by simp [hT.1],fun t ht => ?_⟩,?_⟩
      · rcases List.mem_cons.1 ht with rfl | ht
        · exact ⟨t0,by rw [e2];exact Jc tq⟩
        · exact hT.2 t ht
      · simp only [JX]
        rw [if_pos ⟨t0,tl⟩,←tn];exact hch
theorem VH {c:ContractT} (hc:c.Ok) {party:Int} {p0 e:PosT} (he:VS c e.state) (hr:Rch c party p0 e):∀ (ms:List Int) (L:List PosT) (K:List MoveT),(∀ m∈ms,m∈zA c party e)→PInv c party p0 L→jG c e ms (L,K)=none →
    ∃ L1,PInv c party p0 L1∧L1.length=1500∧∃ q,Rch c party p0 q∧q ∉ L1
  | [],L,K,_,h,hp=>by cases hp
  | m::ms,L,K,hms,h,hp=>by
    simp only [jG] at hp
    have hm:=hms m List.mem_cons_self
    cases hv:visit L (target c e m) with
    | none=>exact ⟨L,h,zbQ hv,_,.step hr hm,zdA hv⟩
    | some x=>
      obtain ⟨to,L1⟩:=x
      rw [hv] at hp
      obtain ⟨h1,_⟩:=VG h (vY hc he hm) (.step hr hm) hv
      exact VH hc he hr ms L1 _ (fun x hx=>hms x (List.mem_cons_of_mem _ hx)) h1 hp
abbrev XT:Type:=(List PosT)×(List (ByteArray×Int))×(List MoveT)
def GotP (c:ContractT) (party:Int) (p0 e:PosT) (L0:List PosT) (ms:List Int) (x:XT):Prop:=jG c e ms (L0,[])=some (x.1,x.2.2)∧FRel c x.2.1 x.1
theorem VI {c:ContractT} (hc:c.Ok) {party:Int} {e:PosT} (he:VS c e.state):(zA c party e).length≤62:=by
  have sm:=qM (hc.off.lt (by omega)) he.cv
  have sa:=sm.acts
  have:=VE c party e c.acts.length
  unfold zA
  cases e.own<;>cases decide (c.days≤e.state.day)<;>simp<;>omega
theorem GotP.facts {c:ContractT} (hc:c.Ok) {party:Int} {p0 e:PosT} {L0:List PosT} {ms:List Int} {x:XT} (he:VS c e.state) (hr:Rch c party p0 e) (hP:PInv c party p0 L0) (hms:∀ m∈ms,m∈zA c party e) (h:GotP c party p0 e L0 ms x) :
    PInv c party p0 x.1∧x.2.2.length=ms.length:=by
  obtain ⟨h1,_,T,eT,hT,_⟩:=JY hc he hr ms L0 x.1 [] x.2.2 hms hP h.1
  refine ⟨h1,?_⟩
  rw [eT,List.nil_append,←hT.1,List.length_map]
theorem JZ {c:ContractT} (hc:c.Ok) {party:Int} {p0 e:PosT} {L0:List PosT} {ms:List Int} {m:Int} {L:List PosT} {F:List (ByteArray×Int)} {K:List MoveT} {q:PosT} (he:VS c e.state) (hr:Rch c party p0 e) (hP:PInv c party p0 L0) (hms:∀ x∈ms,x∈zA c party e) (hm:m∈zA c party e) (hlen:ms.length≤100)
    (hq:q=target c e m) (h:GotP c party p0 e L0 ms (L,F,K)) {β:Type} {k:Int×(List PosT)×(List (ByteArray×Int))→Option β} {z:Option β} {Q:β→Prop}
    (hk:∀ (to:Int) (L':List PosT) (F':List (ByteArray×Int)),GotP c party p0 e L0 (ms++[m]) (L',F',K++[{step:=m,to:=to}])→zT (α:=MoveT) 16 K [({step:=m,to:=to}:MoveT)]=some (K++[{step:=m,to:=to}])→Ret (k (to,L',F')) Q)
    (hz:jG c e (ms++[m]) (L0,[])=none→Ret z Q) :
    Ret (Option.bind (ja q) fun r=>(Option.bind (α:=(Int×(List PosT)×(List (ByteArray×Int))) ⊕ Unit) (bif ((zy r F).isSome) then some (.inl (((zy r F).getD 0),L,F)) else (bif ((L.length:Int) == 1500) then some (.inr ()) else (Option.bind (zT (α:=PosT) 88 L [q]) fun e2=>some (.inl ((L.length:Int),e2,(qh r (L.length:Int) F)))))) (Sum.elim k (fun _=>z)))) Q:=by
  obtain ⟨hPI,hKl⟩:=h.facts hc he hr hP hms
  have hvq:VS c q.state:=by rw [hq];exact vY hc he hm
  refine Ret.bindE (zdz hc hvq) ?_
  refine Ret.bindE (zeI h.2 hvq hPI.len) ?_
  have happ:jG c e (ms++[m]) (L0,[])=(match visit L q with | none=>none | some (to,L')=>some (L',K++[{step:=m,to:=to}])):=by
    rw [kD,h.1]
    simp only [Option.bind_some,jG,hq]
    all_goals (cases visit L (target c e m)<;>rfl)
  cases hv:visit L q with
  | none=>
    rw [hv] at happ
    exact hz happ
  | some x=>
    obtain ⟨to,L'⟩:=x
    rw [hv] at happ
    refine hk to L' (Kr L F q) ⟨happ,FRel.visit h.2 hvq hv⟩ (kQ ?_)
    simp only at hKl
    rw [hKl];simp;omega
theorem Wb (c:ContractT) (party:Int) (p:PosT) {m n:Nat} (h:m≤n):∃ r,q6 c party p n=q6 c party p m++r:=by
  induction h with
  | refl=>exact ⟨[],by simp⟩
  | step _ ih=>
    obtain ⟨r,hr⟩:=ih
    rw [yg,hr]
    exact ⟨_,List.append_assoc _ _ _⟩
theorem ya {c:ContractT} {e:PosT} {a b:List Int} {s:List PosT×List MoveT} (h:jG c e a s=none):jG c e (a++b) s=none:=by rw [kD,h];rfl
structure FromOk (c:ContractT) (party:Int) (p:PosT) (L:List PosT) (M:List (List MoveT)):Prop where
  inv:PInv c party p L
  first:L[0]?=some p
  len:M.length=L.length
  mv:∀ (j:Nat) (T:List MoveT) (e:PosT),M[j]?=some T→L[j]?=some e→MvOk c party L e (zA c party e) T
  chk:vX 0 1 M=some L.length
def J0 (c:ContractT) (party:Int) (p:PosT):Prop:=∃ L1,PInv c party p L1∧L1.length=1500∧∃ q,Rch c party p q∧q ∉ L1
structure FInv (c:ContractT) (party:Int) (p:PosT) (s:Int×(List PosT)×(List (List MoveT))×(List (ByteArray×Int))):Prop where
  i:s.1=(s.2.2.1.length:Int)
  le:s.2.2.1.length≤s.2.1.length
  inv:PInv c party p s.2.1
  rel:FRel c s.2.2.2 s.2.1
  first:s.2.1[0]?=some p
  mv:∀ (j:Nat) (T:List MoveT) (e:PosT),s.2.2.1[j]?=some T→s.2.1[j]?=some e→MvOk c party s.2.1 e (zA c party e) T
  chk:vX 0 1 s.2.2.1=some s.2.1.length
theorem Ks {c:ContractT} (hc:c.Ok) {party:Int} {p:PosT} (hpl:ZC c party p.state=true) :
    Ret (jS c party p) (fun r=>(r.2=0∧r.1.party=party∧FromOk c party p r.1.positions r.1.moves)∨(r.2=3∧J0 c party p)):=by
  obtain ⟨hp0,hp1,hv⟩:=QB.1 hpl
  have sm:=qM (hc.off.lt (by omega)) hv.cv
  have sa:=sm.acts
  unfold jS
  refine Ret.bindE (by rw [Wa hc,hpl]) ?_
  refine Ret.ite (fun _ => ?_) (fun h=>by cases h)
  refine Ret.bindE (Kp hc hv) ?_
  refine Ret.bindE (zdz hc hv) ?_
  refine Ret.bind (P:=fun o:((List PosT)×(List (List MoveT))) ⊕ Unit=>(∃ L M,o=.inl (L,M)∧FromOk c party p L M)∨(o=.inr ()∧J0 c party p)) ?_ ?_
  · refine Ret.bind (P:=fun o:((List PosT)×(List (List MoveT))) ⊕ Unit=>(∃ L M,o=.inl (L,M)∧FromOk c party p L M)∨(o=.inr ()∧J0 c party p)) (Ret.iter (FInv c party p) (fun s=>(1501 - s.1).toNat) ?_ ?_) ?_
    · refine ⟨rfl,by simp,⟨fun q hq => ?_,by simp,fun q hq => ?_,by simp⟩,?_,rfl,fun j T e h=>by simp at h,rfl⟩
      · rw [List.mem_singleton.1 hq];exact hv
      · rw [List.mem_singleton.1 hq];exact .base
      · intro q hq
        simp only [qh,zy,kW,List.mem_singleton]
        by_cases e:q={state:=p.state,own:=p.own}
        · subst e
          simp [List.idxOf_cons,txt]
        · have e2:txt q≠txt p:=fun h=>e (zaK hq hv h)
          rw [if_neg e2,if_neg e]
    · rintro ⟨i,L,M,F⟩ ⟨hi,hle,hinv,hrel,hfst,hmv,hchk⟩
      simp only at hi hle hinv hrel hfst hmv hchk ⊢
      subst hi
      have hlen:=hinv.len
      refine Ret.ite (fun hlt => ?_) (fun hge => ?_)
      · have hlt:=of_decide_eq_true hlt
        have hML:M.length < L.length:=by omega
        have heq:=List.getElem?_eq_getElem hML
        have hme:=List.getElem_mem hML
        have he:=hinv.vs _ hme
        have hr:=hinv.rch _ hme
        generalize L[M.length]=e at heq he hr
        have hmlen:=VI hc (party:=party) he
        refine Ret.bind (P:=fun o:XT ⊕ Unit=>(∃ x,o=.inl x∧GotP c party p e L (zA c party e) x)∨(o=.inr ()∧jG c e (zA c party e) (L,[])=none)) ?_ ?_
        · refine Ret.bindE (zD heq) ?_
          refine Ret.bindE (x:=XM c party e) (v:=()) rfl ?_
          refine Ret.bind (P:=fun o:XT ⊕ (Unit ⊕ XT)=>(∃ x,o=.inl x∧e.state.day < c.days∧GotP c party p e L (bif e.own then [-2] else []) x)∨(o=.inr (.inl ())∧jG c e (bif e.own then [-2] else []) (L,[])=none)∨(∃ x,o=.inr (.inr x)∧c.days≤e.state.day∧GotP c party p e L (bif e.own then [-2] else []) x)) ?_ ?_
          · have hbase:GotP c party p e L [] (L,F,[]):=⟨rfl,hrel⟩
            cases ho:e.own with
            | false=>
              simp only [cond_false]
              refine Ret.ite (fun hd=>Ret.some (.inr (.inr ⟨_,rfl,of_decide_eq_true hd,hbase⟩))) (fun hd=>Ret.some (.inl ⟨_,rfl,by have:=of_decide_eq_false hd;omega,hbase⟩))
            | true=>
              simp only [cond_true]
              refine Ret.bindE (Kp hc he) ?_
              have hm2:(-2:Int)∈zA c party e:=wh.2 (.inl ⟨ho,rfl⟩)
              refine JZ hc he hr hinv (fun x hx=>by cases hx) hm2 (by simp) (by unfold target;rw [if_pos rfl]) hbase (fun to L' F' hg ha => ?_) (fun hz=>Ret.some (.inr (.inl ⟨rfl,hz⟩)))
              refine Ret.bindE ha ?_
              refine Ret.ite (fun hd=>Ret.some (.inr (.inr ⟨_,rfl,of_decide_eq_true hd,hg⟩))) (fun hd=>Ret.some (.inl ⟨_,rfl,by have:=of_decide_eq_false hd;omega,hg⟩))
          · rintro o (⟨⟨L1,F1,K1⟩,rfl,hd,hg⟩ | ⟨rfl,hn⟩ | ⟨⟨L1,F1,K1⟩,rfl,hd,hg⟩)
            · -- there is time left: the tick
              have hmv0:zA c party e=(bif e.own then [-2] else [-1])++q6 c party e c.acts.length:=by
                unfold zA
                rw [decide_eq_false (show ¬ c.days≤e.state.day by omega)]
                cases e.own<;>rfl
              refine Ret.bind (P:=fun o:XT ⊕ Unit=>(∃ x,o=.inl x∧GotP c party p e L (bif e.own then [-2] else [-1]) x)∨(o=.inr ()∧jG c e (bif e.own then [-2] else [-1]) (L,[])=none)) ?_ ?_
              · cases ho:e.own with
                | true=>rw [ho] at hg;exact Ret.some (.inl ⟨_,rfl,hg⟩)
                | false=>
                  rw [ho] at hg
                  simp only [cond_false] at hg ⊢
                  obtain ⟨est,_⟩:=vg (a := -1) hc he (by omega) (by omega) hd
                  refine Ret.bindE est ?_
                  have hm1:(-1:Int)∈zA c party e:=wh.2 (.inr (.inl ⟨hd,ho,rfl⟩))
                  refine JZ hc he hr hinv (fun x hx=>by cases hx) hm1 (by simp) (by unfold target;rw [if_neg (by omega)]) hg (fun to L' F' hg ha => ?_) (fun hz=>Ret.some (.inr ⟨rfl,hz⟩))
                  refine Ret.bindE ha ?_
                  exact Ret.some (.inl ⟨_,rfl,hg⟩)
              · rintro o (⟨⟨L2,F2,K2⟩,rfl,hg2⟩ | ⟨rfl,hn⟩)
                · -- the acts
                  refine Ret.bind (P:=fun o:XT ⊕ XT=>(∃ x,o=.inl x∧GotP c party p e L (zA c party e) x)∨(∃ x,o=.inr x∧jG c e (zA c party e) (L,[])=none)) ?_ ?_
                  · have hsub:∀ i,i≤c.acts.length→∀ x∈(bif e.own then [-2] else [-1])++q6 c party e i,x∈zA c party e:=by
                      intro i hi x hx
                      rw [hmv0]
                      obtain ⟨r,hr'⟩:=Wb c party e hi
                      rw [hr']
                      rcases List.mem_append.1 hx with h | h
                      · exact List.mem_append.2 (.inl h)
                      · exact List.mem_append.2 (.inr (List.mem_append.2 (.inl h)))
                    refine Ret.forL (n:=c.acts.length) (fun i s=>GotP c party p e L ((bif e.own then [-2] else [-1])++q6 c party e i) s) (by omega) ?_ ?_ (fun s hs=>.inl ⟨s,rfl,by rw [hmv0];exact hs⟩)
                    · show GotP c party p e L ((bif e.own then [-2] else [-1])++q6 c party e 0) (L2,F2,K2)
                      have:q6 c party e 0=[]:=rfl
                      rw [this,List.append_nil];exact hg2
                    · rintro i ⟨L3,F3,K3⟩ hi hg3
                      simp only
                      have hx:=List.getElem?_eq_getElem hi
                      have av:=X7 hv.cv hx
                      have hmvb:mvB c party e i=(((qS e.state.holders c.acts[i] == party) == e.own) && !wC (jn c e.state i) e.state):=by simp only [mvB,hx]
                      have hlenA:=VE c party e i
                      refine Ret.bind (P:=fun o:XT ⊕ Unit=>(∃ x,o=.inl x∧GotP c party p e L ((bif e.own then [-2] else [-1])++q6 c party e (i+1)) x)∨(o=.inr ()∧jG c e ((bif e.own then [-2] else [-1])++q6 c party e (i+1)) (L,[])=none)) ?_ ?_
                      · refine Ret.bindE (zD hx) ?_
                        refine Ret.bindE (zeE he av) ?_
                        refine Ret.ite (fun hq => ?_) (fun hq => ?_)
                        · obtain ⟨est,hvs,_⟩:=vg (a:=(i:Int)) hc he (by omega) (by omega) hd
                          have hfew:=hvs.few hc
                          refine Ret.bindE est ?_
                          refine Ret.bindE (zf1 (jn c e.state i) e.state (by omega) (by omega) (by omega)) ?_
                          refine Ret.ite (fun hs=>Ret.some (.inl ⟨_,rfl,?_⟩)) (fun hs => ?_)
                          · rw [yg,hmvb,hq,hs]
                            simpa using hg3
                          · have hb:mvB c party e i=true:=by rw [hmvb,hq,hs];rfl
                            have hmi:(i:Int)∈zA c party e:=wh.2 (.inr (.inr ⟨hd,i,hi,hb,rfl⟩))
                            have hact:q6 c party e (i+1)=q6 c party e i++[(i:Int)]:=by rw [yg,hb];rfl
                            rw [hact,←List.append_assoc]
                            refine JZ hc he hr hinv (hsub i (by omega)) hmi (by cases e.own<;>simp<;>omega) (by unfold target;rw [if_neg (by omega)]) hg3 (fun to L' F' hg ha => ?_) (fun hz=>Ret.some (.inr ⟨rfl,hz⟩))
                            refine Ret.bindE ha ?_
                            exact Ret.some (.inl ⟨_,rfl,hg⟩)
                        · refine Ret.some (.inl ⟨_,rfl,?_⟩)
                          rw [yg,hmvb,hq]
                          simpa using hg3
                      · rintro o (⟨x,rfl,hgx⟩ | ⟨rfl,hn⟩)
                        · exact Ret.some hgx
                        · refine Ret.some (.inr ⟨_,rfl,?_⟩)
                          rw [hmv0]
                          obtain ⟨r,hr'⟩:=Wb c party e (show i+1≤c.acts.length by omega)
                          rw [hr',←List.append_assoc]
                          exact ya hn
                  · rintro o (⟨x,rfl,hgx⟩ | ⟨x,rfl,hn⟩)
                    · exact Ret.some (.inl ⟨_,rfl,hgx⟩)
                    · exact Ret.some (.inr ⟨rfl,hn⟩)
                · refine Ret.some (.inr ⟨rfl,?_⟩)
                  rw [hmv0];exact ya hn
            · refine Ret.some (.inr ⟨rfl,?_⟩)
              unfold zA;exact ya hn
            · refine Ret.some (.inl ⟨_,rfl,?_⟩)
              have:zA c party e=(bif e.own then [-2] else []):=by
                unfold zA
                rw [decide_eq_true hd]
                simp
              rw [this];exact hg
        · rintro o (⟨⟨L',F',K'⟩,rfl,hg⟩ | ⟨rfl,hn⟩)
          · obtain ⟨h1,⟨r1,e1⟩,T,eT,hT,hch⟩:=JY hc he hr (zA c party e) L L' [] K' (fun m hm=>hm) hinv hg.1
            simp only [List.nil_append] at eT
            subst eT
            simp only [Sum.elim_inl]
            refine Ret.bindE (kQ (by simp;omega)) ?_
            rw [qC (by omega) (by omega)]
            refine Ret.some ⟨⟨by simp,?_,h1,hg.2,by show L'[0]?=some p;rw [e1];exact Jc hfst,?_,?_⟩,?_⟩
            · show (M++[K']).length≤L'.length
              rw [e1];simp;omega
            · show ∀ (j:Nat) (T:List MoveT) (e:PosT),(M++[K'])[j]?=some T→L'[j]?=some e→MvOk c party L' e (zA c party e) T
              intro j T e' hj he'
              by_cases hjm:j < M.length
              · rw [List.getElem?_append_left hjm] at hj
                have hjL:L[j]?=some e':=by
                  rw [e1,List.getElem?_append_left (by omega)] at he';exact he'
                rw [e1]
                exact (hmv j T e' hj hjL).app r1
              · have hj2:j=M.length:=by
                  have:=(List.getElem?_eq_some_iff.1 hj).1
                  simp at this;omega
                subst hj2
                rw [List.getElem?_append_right (Nat.le_refl _)] at hj
                simp at hj
                subst hj
                have:L'[M.length]?=some e:=by rw [e1];exact Jc heq
                rw [this] at he';cases he'
                exact hT
            · show vX 0 1 (M++[K'])=some L'.length
              rw [Jw,hchk]
              simp only [Option.bind_some,Nat.zero_add]
              rw [if_pos hML];exact hch
            · show (1501 - ((M.length:Int)+1)).toNat < (1501 - (M.length:Int)).toNat
              omega
          · obtain ⟨L1,h1,h2⟩:=VH hc he hr (zA c party e) L [] (fun m hm=>hm) hinv hn
            exact Ret.some (.inr ⟨rfl,L1,h1,h2⟩)
      · have hge:=of_decide_eq_false hge
        exact Ret.some (.inl ⟨L,M,rfl,hinv,hfst,by omega,hmv,hchk⟩)
    · rintro o (⟨L,M,rfl,h⟩ | ⟨rfl,h⟩)
      · exact Ret.some (.inl ⟨L,M,rfl,h⟩)
      · exact Ret.some (.inr ⟨rfl,h⟩)
  · rintro o (⟨L,M,rfl,h⟩ | ⟨rfl,h⟩)
    · exact Ret.some (.inl ⟨rfl,rfl,h⟩)
    · exact Ret.some (.inr ⟨rfl,h⟩)
def vH (k:ClauseT) (m:MarkT):MarkT:=bif k.waived then {status:=5,left:=0,got:=0,bearer := -1,paused:=false} else {status:=0,left:=0,got:=0,bearer := -1,paused:=false}
def kq:MarkT:={status:=0,left:=0,got:=0,bearer:=0,paused:=false}
theorem zdB {c:ContractT} (hc:c.Ok) (h:(zN c).1≠0):qK c=some (noS,1):=by
  unfold qK
  rw [hc.valid]
  have:((zN c).1 == 0)=false:=beq_eq_false_iff_ne.2 h
  simp only [Option.bind_some,this,cond_false];rfl
def vZ (c:ContractT):List MarkT:=(List.replicate c.clauses.length kq).mapIdx (atK c vH)
theorem ZE {c:ContractT} (hc:c.Ok) (hv:(zN c).1=0):Ret (qK c) (fun r=>r.2=0∧VS c r.1∧r.1.day=0∧r.1.holders=c.holders∧r.1.used=List.replicate c.acts.length false∧StartP c c.holders (vZ c) r.1.marks):=by
  have ho:=hc.off.lt (by omega:0 < 8)
  have sm:=qM ho hv
  have s1:=sm.holders
  have s2:=sm.acts
  have s3:=sm.clauses
  have s4:=sm.parties
  have s5:=sm.days
  unfold qK
  refine Ret.bindE hc.valid ?_
  refine Ret.ite (fun _ => ?_) (fun h=>absurd hv (beq_eq_false_iff_ne.1 h))
  refine Ret.bindE (km (by omega)) ?_
  refine Ret.bindE (QA (show c.acts.length < 1000 by omega) (by omega)) ?_
  refine Ret.bindE (QA (show c.clauses.length < 1000 by omega) (by omega)) ?_
  have hok0:MOk c ((List.replicate c.clauses.length kq).mapIdx (atK c vH)):=by
    refine ⟨by simp,fun i k m hk hm => ?_⟩
    rw [List.getElem?_mapIdx] at hm
    obtain ⟨m0,_,rfl⟩:=Option.map_eq_some_iff.1 hm
    simp only [atK,hk,vH]
    have e4:decide (-1 < c.parties)=true:=decide_eq_true (by omega)
    cases hw:k.waived with
    | true=>
      show qN c.parties k {status:=5,left:=0,got:=0,bearer := -1,paused:=false}=true
      refine ju.2 (.inr (.inr (.inr ⟨.inr (.inr rfl),?_⟩)))
      show ((0:Int) == 0&&(decide ((0:Int)≤0)&&(decide ((0:Int)≤9)&&(decide ((-1:Int) ≤ -1)&&(decide (-1 < c.parties) && !false)))))=true
      rw [e4];rfl
    | false=>exact ju.2 (.inl ⟨rfl,hw,rfl⟩)
  refine Ret.bind (P:=fun o:List MarkT ⊕ Unit=>o=.inl ((List.replicate c.clauses.length kq).mapIdx (atK c vH))) ?_ ?_
  · refine Ret.of ?_
    have hl:(c.clauses.length:Int)=((List.replicate c.clauses.length kq).length:Int):=by simp
    show forR (c.clauses.length:Int) _ (List.replicate c.clauses.length kq)=_
    conv=>lhs;arg 1;rw [hl]
    refine xJ (List.replicate c.clauses.length kq) (atK c vH) (by simp;omega) ?_
    intro i m s h1 h2 h3
    have hi:i < c.clauses.length:=by simpa using (List.getElem?_eq_some_iff.1 h1).1
    have hk:=List.getElem?_eq_getElem hi
    simp only [zD hk,Option.bind_some,zV hi,h3,wg h3,atK,hk,vH,List.set_set]
    cases c.clauses[i].waived<;>rfl
  · rintro o rfl
    simp only [Sum.elim_inl]
    have hs:=Qz c 0 c.holders (List.replicate c.acts.length false) _ ho hv rfl (Q8 hv) hok0
    unfold wA at hs
    rw [List.length_replicate,show ((List.replicate c.clauses.length kq).mapIdx (atK c vH)).length=c.clauses.length by simp] at hs
    refine Ret.bind hs fun r hr => ?_
    refine Ret.bindE (wB (by simp)) ?_
    refine Ret.bindE (wB hr.ok.1.symm) ?_
    refine Ret.some ⟨rfl,⟨hv,⟨by show (0:Int)≤0;omega,by show (0:Int)≤c.days;omega⟩,rfl,by simp,hr.ok.1,Q8 hv,?_,hr.ok.2,hr.nr⟩,rfl,rfl,rfl,hr⟩
    intro i a _ hu
    simp only [List.getElem?_replicate] at hu
    split at hu
    · cases hu
    · cases hu
theorem VJ {c:ContractT} (hc:c.Ok) (hv:(zN c).1=0):Ret (qK c) (fun r=>r.2=0∧VS c r.1):=Ret.mono (ZE hc hv) fun _ h=>⟨h.1,h.2.1⟩
def Wc:ArenaT:={party:=0,positions:=[],moves:=[]}
theorem zeJ {c:ContractT} (hc:c.Ok) {party:Int} {p:PosT} (h:ZC c party p.state=false):jS c party p=some (Wc,1):=by
  unfold jS
  rw [Wa hc,h];rfl
def zhy (c:ContractT) (party:Int) (r:ArenaT×Int):Prop:=
  r.2≠0∨(r.2=0∧∃ s0,qK c=some (s0,0)∧VS c s0∧0≤party∧party < c.parties∧r.1.party=party∧FromOk c party {state:=s0,own:=true} r.1.positions r.1.moves)
theorem zdC {c:ContractT} (hc:c.Ok) (party:Int):Ret (jY c party) (zhy c party):=by
  unfold jY
  by_cases hv:(zN c).1=0
  · obtain ⟨⟨s0,e0⟩,hst,h0,hvs⟩:=VJ hc hv
    simp only at h0 hvs
    subst h0
    refine Ret.bindE hst ?_
    refine Ret.ite (fun _ => ?_) (fun h=>by cases h)
    cases hpl:ZC c party s0 with
    | false=>
      refine Ret.bindE (zeJ hc (p:={state:=s0,own:=true}) hpl) ?_
      exact Ret.some (.inl (by simp))
    | true=>
      obtain ⟨h1,h2,_⟩:=QB.1 hpl
      refine Ret.bind (Ks hc (p:={state:=s0,own:=true}) hpl) ?_
      rintro ⟨a,e⟩ (⟨h3,h4,h5⟩ | ⟨h3,_⟩)
      · exact Ret.some (.inr ⟨h3,s0,hst,hvs,h1,h2,h4,h5⟩)
      · simp only at h3
        exact Ret.some (.inl (by show e≠0;omega))
  · refine Ret.bindE (zdB hc hv) ?_
    exact Ret.some (.inl (by simp))
theorem zbR {c:ContractT} (hc:c.Ok) (hv:(zN c).1=0) {party:Int} (h0:0≤party) (h1:party < c.parties):Ret (jY c party) (fun r=>∃ s0,qK c=some (s0,0)∧VS c s0∧((r.2=0∧r.1.party=party∧FromOk c party {state:=s0,own:=true} r.1.positions r.1.moves)∨(r.2=3∧J0 c party {state:=s0,own:=true}))):=by
  unfold jY
  obtain ⟨⟨s0,e0⟩,hst,h2,hvs⟩:=VJ hc hv
  simp only at h2 hvs
  subst h2
  refine Ret.bindE hst ?_
  refine Ret.ite (fun _ => ?_) (fun h=>by cases h)
  refine Ret.bind (Ks hc (p:={state:=s0,own:=true}) (QB.2 ⟨h0,h1,hvs⟩)) ?_
  rintro ⟨a,e⟩ h
  exact Ret.some ⟨s0,hst,hvs,h⟩
theorem xU {α:Type} [BEq α] [LawfulBEq α]:∀ {L1 L2:List α},L1.Nodup→(∀ x∈L1,x∈L2)→L1.length≤L2.length
  | [],L2,_,_=>by simp
  | a::l,L2,h,hs=>by
    obtain ⟨ha,hl⟩:=List.nodup_cons.1 h
    have hm:=hs a List.mem_cons_self
    have ih:=xU (L1:=l) (L2:=L2.erase a) hl fun x hx=>(List.mem_erase_of_ne (by rintro rfl;exact ha hx)).2 (hs x (List.mem_cons_of_mem _ hx))
    rw [List.length_erase_of_mem hm] at ih
    have:0 < L2.length:=List.length_pos_of_mem hm
    simp only [List.length_cons];omega
theorem FromOk.closed {c:ContractT} {party:Int} {p:PosT} {L:List PosT} {M:List (List MoveT)} (F:FromOk c party p L M) {q:PosT} (hq:q∈L) {m:Int} (hm:m∈zA c party q):target c q m∈L:=by
  obtain ⟨j,hj,e⟩:=List.getElem_of_mem hq
  have hjM:j < M.length:=by rw [F.len];exact hj
  have h:=F.mv j M[j] q (List.getElem?_eq_getElem hjM) (by rw [List.getElem?_eq_getElem hj,e])
  rw [←h.1] at hm
  obtain ⟨t,ht,rfl⟩:=List.mem_map.1 hm
  exact List.mem_of_getElem? (h.2 t ht).2
theorem FromOk.rch {c:ContractT} {party:Int} {p:PosT} {L:List PosT} {M:List (List MoveT)} (F:FromOk c party p L M) {q x:PosT} (hq:q∈L) (h:Rch c party q x):x∈L:=by
  induction h with
  | base=>exact hq
  | step _ hm ih=>exact F.closed ih hm
section
def at_ (l:List Int) (i:Nat):Int:=l[i]?.getD 0
theorem xS {l:List Int} {i:Nat} (h:i < l.length):l[i]?=some (at_ l i):=by unfold at_;rw [List.getElem?_eq_getElem h];rfl
theorem yO {l:List Int} {i:Nat} (h:i < l.length) (x:Int):at_ (l.set i x)=upd (at_ l) i x:=by
  funext j
  unfold at_ upd
  by_cases e:j=i
  · subst e;rw [if_pos rfl,List.getElem?_set_self h];rfl
  · rw [if_neg e,List.getElem?_set_ne (Ne.symm e)]
def cst (l:List Nat):List Int:=l.map fun x:Nat=>(x:Int)
theorem yq (l:List Nat):(cst l).length=l.length:=List.length_map _
theorem Jd (l m:List Nat):cst (l++m)=cst l++cst m:=List.map_append
def WQ (c:ContractT) (party:Int) (marks:List MarkT) (i:Nat):Bool:=match c.clauses[i]?,marks[i]? with
  | some k,some m=>k.final&&((m.status == 4)&&(m.bearer == party))
  | _,_=>false
def jz (c:ContractT) (s:StateT) (party:Int):Bool := !((List.range s.marks.length).all fun i=>!WQ c party s.marks i)
theorem zdD (c:ContractT) (s:StateT) (party:Int) (hl:s.marks.length=c.clauses.length) (hs:s.marks.length < 4611686018427387904) :
    (forR (σ:=Unit) (ρ:=Unit) (s.marks.length:Int) (fun i1 s1=>(Option.bind (ze s.marks (i1:Int)) fun e1=>(Option.bind (Option.bind (ze c.clauses (i1:Int)) fun e2=>(bif e2.final then (bif (e1.status == 4) then some (e1.bearer == party) else some false) else some false)) fun v1=>(bif v1 then some (.inr ()) else some (.inl ()))))) ()) =
      some (bif jz c s party then .inr () else .inl ()):=by
  rw [kn (fun i=>!WQ c party s.marks i) hs (fun j hj=>by
    have hk:j < c.clauses.length:=by omega
    simp only [qk,List.getElem?_eq_getElem hj,List.getElem?_eq_getElem hk,Option.bind_some,WQ]
    cases (c.clauses[j].final)<;>cases (s.marks[j].status == 4)<;>cases (s.marks[j].bearer == party)<;>rfl)]
  unfold jz
  cases ((List.range s.marks.length).all fun i=>!WQ c party s.marks i)<;>rfl
theorem zhz {c:ContractT} (hc:c.Ok) {s:StateT} (hv:VS c s) (party:Int):Qj c s party=some (jz c s party):=by
  have:=(hv.few hc).2.2
  unfold Qj
  rw [zdD c s party hv.lm (by omega)]
  cases jz c s party<;>rfl
def gm (c:ContractT) (a:ArenaT):Gm where
  n:=a.positions.length
  own i:=match a.positions[i]? with | some q=>q.own | none=>false
  lost i:=match a.positions[i]? with | some q=>jz c q.state a.party | none=>false
  succ i:=match a.moves[i]? with | some T=>T.map fun m=>m.to.toNat | none=>[]
structure ArOk (c:ContractT) (party:Int) (p:PosT) (a:ArenaT):Prop where
  p0:0≤party
  p1:party < c.parties
  pa:a.party=party
  F:FromOk c party p a.positions a.moves
section
variable {c:ContractT} {party:Int} {p:PosT} {a:ArenaT}
theorem ArOk.mv (A:ArOk c party p a) {i:Nat} (hi:i < a.positions.length):∃ T,a.moves[i]?=some T∧MvOk c party a.positions a.positions[i] (zA c party a.positions[i]) T:=by
  have h:i < a.moves.length:=by rw [A.F.len];exact hi
  exact ⟨a.moves[i],List.getElem?_eq_getElem h,A.F.mv i _ _ (List.getElem?_eq_getElem h) (List.getElem?_eq_getElem hi)⟩
theorem ArOk.succ (A:ArOk c party p a) {i:Nat} (hi:i < a.positions.length) {T:List MoveT} (hT:a.moves[i]?=some T):(gm c a).succ i=T.map fun m=>m.to.toNat:=by
  simp only [gm,hT]
theorem ArOk.to (A:ArOk c party p a) {i:Nat} (hi:i < a.positions.length) {T:List MoveT} (hT:a.moves[i]?=some T) {m:MoveT} (hm:m∈T):0≤m.to∧m.to < a.positions.length:=by
  obtain ⟨T',h1,_,h3⟩:=A.mv hi
  rw [hT] at h1;cases h1
  obtain ⟨h4,h5⟩:=h3 m hm
  have:=(List.getElem?_eq_some_iff.1 h5).1
  omega
theorem ArOk.len (hc:c.Ok) (A:ArOk c party p a) {i:Nat} (hi:i < a.positions.length) {T:List MoveT} (hT:a.moves[i]?=some T):T.length≤62:=by
  obtain ⟨T',h1,h2,_⟩:=A.mv hi
  rw [hT] at h1;cases h1
  have:=VI hc (party:=party) (A.F.inv.vs _ (List.getElem_mem hi))
  rw [←List.length_map (f:=fun x:MoveT=>x.step),h2];exact this
theorem ArOk.closed (A:ArOk c party p a):∀ i,i < (gm c a).n→∀ t∈(gm c a).succ i,t < (gm c a).n:=fun i hi t ht=>by
  obtain ⟨T,h1,_⟩:=A.mv hi
  rw [A.succ hi h1] at ht
  obtain ⟨m,hm,rfl⟩:=List.mem_map.1 ht
  have:=A.to hi h1 hm
  show m.to.toNat < a.positions.length
  omega
theorem ArOk.slen (hc:c.Ok) (A:ArOk c party p a) (i:Nat) (hi:i < (gm c a).n):((gm c a).succ i).length≤62:=by
  obtain ⟨T,h1,_⟩:=A.mv hi
  rw [A.succ hi h1,List.length_map];exact A.len hc hi h1
theorem Kt (hc:c.Ok) (A:ArOk c party p a):xl c a=some true:=by
  have h0:=A.p0
  have h1:=A.p1
  have hlen:=A.F.inv.len
  refine Ret.eq ?_
  unfold xl
  rw [A.pa]
  refine Ret.bindE (v:=false) (by rw [decide_eq_false (show ¬ party < 0 by omega),decide_eq_false (show ¬ c.parties≤party by omega),A.F.len];simp) ?_
  refine Ret.ite (fun h=>by cases h) (fun _ => ?_)
  refine Ret.bind (P:=fun o:Unit ⊕ Unit=>o=.inl ()) (Ret.forL (fun _ _=>True) (by omega) trivial (fun i s hi _ => ?_) (fun _ _=>rfl)) ?_
  · obtain ⟨T,hT,hM⟩:=A.mv hi
    have hTl:=A.len hc hi hT
    refine Ret.bindE (zD (List.getElem?_eq_getElem hi)) ?_
    refine Ret.bindE (zD hT) ?_
    refine Ret.bind (P:=fun o:Unit ⊕ Unit=>o=.inl ()) (Ret.forL (fun _ _=>True) (by omega) trivial (fun k s hk _ => ?_) (fun _ _=>rfl)) ?_
    · have:=A.to hi hT (List.getElem_mem hk)
      refine Ret.bindE (zD (List.getElem?_eq_getElem hk)) ?_
      refine Ret.bindE (v:=false) (by rw [decide_eq_false (show ¬ T[k].to < 0 by omega),decide_eq_false (show ¬ (a.positions.length:Int)≤T[k].to by omega)];rfl) ?_
      exact Ret.some trivial
    · rintro _ rfl
      refine Ret.bindE (by rw [JU c _ hc,Kl (A.F.inv.vs _ (List.getElem_mem hi))]) ?_
      exact Ret.some trivial
  · rintro _ rfl
    exact Ret.some rfl
structure L1 (G:Gm) (i k:Nat) (bef:List (List Int)):Prop where
  len:bef.length=G.n
  row:∀ t,t < G.n→∃ l:List Nat,bef[t]?=some (cst l)∧l.length≤62*i+k∧∀ x,l.count x=if x < i then (G.succ x).count t else if x=i then ((G.succ i).take k).count t else 0
theorem L1.next {G:Gm} {i k:Nat} {bef:List (List Int)} (h:L1 G i k bef) (hk:k=(G.succ i).length) (hl:k≤62):L1 G (i+1) 0 bef:=by
  refine ⟨h.len,fun t ht => ?_⟩
  obtain ⟨l,h1,h2,h3⟩:=h.row t ht
  refine ⟨l,h1,by omega,fun x => ?_⟩
  rw [h3 x]
  by_cases e:x < i
  · rw [if_pos e,if_pos (by omega)]
  · rw [if_neg e]
    by_cases e2:x=i
    · subst e2;rw [if_pos rfl,if_pos (by omega),hk,List.take_length]
    · rw [if_neg e2,if_neg (by omega)]
      split<;>simp
theorem L1.step {G:Gm} {i k:Nat} {bef:List (List Int)} (h:L1 G i k bef) (hn:G.n≤1500) (hi:i < G.n) (hk:k≤62) {to:Nat} (ht:(G.succ i)[k]?=some to) (hto:to < G.n):Ret (wc bef G.n (to:Int) (i:Int)) (L1 G i (k+1)):=by
  obtain ⟨l,h1,h2,h3⟩:=h.row to hto
  have e:wc bef G.n (to:Int) (i:Int)=some (bef.set to (cst (l++[i]))):=by
    unfold wc
    rw [if_pos ⟨by omega,by omega,by omega⟩,Int.toNat_natCast,h1]
    simp only
    rw [if_pos (by rw [yq];omega),Jd];rfl
  refine ⟨_,e,by rw [List.length_set];exact h.len,fun t ht2 => ?_⟩
  have htk:(G.succ i).take (k+1)=(G.succ i).take k++[to]:=by
    obtain ⟨h5,h6⟩:=List.getElem?_eq_some_iff.1 ht
    rw [List.take_succ_eq_append_getElem h5,h6]
  by_cases e2:t=to
  · subst e2
    refine ⟨l++[i],List.getElem?_set_self (by rw [h.len];exact ht2),by simp;omega,fun x => ?_⟩
    rw [List.count_append,h3 x,htk,List.count_append]
    by_cases a1:x < i
    · rw [if_pos a1,if_pos a1,List.count_cons_of_ne (by omega)];simp
    · rw [if_neg a1,if_neg a1]
      by_cases a2:x=i
      · subst a2;rw [if_pos rfl,if_pos rfl];simp
      · rw [if_neg a2,if_neg a2,List.count_cons_of_ne (fun h=>a2 h.symm)];simp
  · obtain ⟨l2,b1,b2,b3⟩:=h.row t ht2
    refine ⟨l2,by rw [List.getElem?_set_ne (Ne.symm e2)];exact b1,by omega,fun x => ?_⟩
    rw [b3 x,htk,List.count_append,List.count_cons_of_ne (Ne.symm e2)];simp
structure L2 (G:Gm) (i:Nat) (s:List Int×List Int×List (List Int)×List Int):Prop where
  lr:s.1.length=G.n
  lo:s.2.1.length=G.n
  bef:L1 G i 0 s.2.2.1
  r:∀ j,j < i→at_ s.1 j=if G.lost j=true then 0 else -1
  o:∀ j,j < i→at_ s.2.1 j=((G.succ j).length:Int)
  k:s.2.2.2=cst ((List.range i).filter G.lost)
theorem WR {b n:Nat} (h:n≤1500) (hb:b≤1000):mkN b (n:Int)=some n:=by
  unfold mkN
  have:n*b≤1500*1000:=Nat.mul_le_mul h hb
  rw [if_pos ⟨by omega,by omega,by push_cast;omega⟩,Int.toNat_natCast]
end
end
section
section
variable {c:ContractT} {party:Int} {p:PosT} {a:ArenaT}
theorem Ku {x:Int} {l:List Int} (nx:Int) (h:l.length≤4000):vV x l nx=some (l++[x]):=by
  unfold vV
  rw [kQ (by simp;omega)];rfl
theorem Wd {x:Nat} {v:Int} {r l:List Int} {n:Nat} (nx:Int) (hx:x < n) (hr:r.length=n) (h:l.length≤4000):vW (x:Int) v r n l nx=some (l++[(x:Int)],r.set x v):=by
  unfold vW
  rw [zV hx]
  simp only [Option.bind_some]
  rw [xS (by omega),Ku nx h];rfl
def Bnd (G:Gm) (r:Nat→Int) (m:Nat):Prop:=∀ i,i < G.n→r i≤m
theorem zeK (hc:c.Ok) (A:ArOk c party p a) {r o:List Int} {P Q:List Nat} {u x:Nat} {cn:Nat→Nat} (nx:Int) (hr:r.length=(gm c a).n) (ho:o.length=(gm c a).n)
    (h:EInv (gm c a) (at_ r) (at_ o) P u Q cn) (hb:Bnd (gm c a) (at_ r) (P++u::Q).length) (hx:x < (gm c a).n) (hcn:cn x < ((gm c a).succ x).count u) :
    Ret (kT (x:Int) (u:Int) o (gm c a).n r (gm c a).n a (cst (P++u::Q)) nx) (fun z=>z.1.length=(gm c a).n∧z.2.1.length=(gm c a).n∧∃ Q',z.2.2=cst (P++u::Q')∧EInv (gm c a) (at_ z.2.1) (at_ z.1) P u Q' (upd cn x (cn x+1))∧Bnd (gm c a) (at_ z.2.1) (P++u::Q').length):=by
  have hn:(gm c a).n≤1500:=A.F.inv.len
  have hroom:=h.room hx hcn
  have hop:=h.core.op x hx
  have hsl:=A.slen hc x hx
  have hcp:(((gm c a).succ x).countP (wP P))≤((gm c a).succ x).length:=List.countP_le_length
  have hKn:(P++u::Q).length≤(gm c a).n:=by
    have:=xU (L2:=List.range (gm c a).n) h.core.nd (fun y hy=>List.mem_range.2 (h.core.lt y hy))
    rwa [List.length_range] at this
  obtain ⟨hu,hun,hru,_,_⟩:=h.core.split
  have hgu:=h.core.ge u hun
  have hgx:=h.core.ge x hx
  have hbu:=hb u hun
  have hw1:IntKind.i64.wrap (at_ o x - 1)=at_ o x - 1:=qC (by omega) (by omega)
  have hw2:IntKind.i64.wrap (at_ r u+1)=at_ r u+1:=qC (by omega) (by omega)
  have hso:at_ (o.set x (at_ o x - 1))=upd (at_ o) x (at_ o x - 1):=yO (by omega) _
  have hget:(o.set x (at_ o x - 1))[x]?=some (at_ o x - 1):=List.getElem?_set_self (by omega)
  have hown:(gm c a).own x=(a.positions[x]'(hx)).own:=by
    show (match a.positions[x]? with | some q=>q.own | none=>false)=_
    rw [List.getElem?_eq_getElem (show x < a.positions.length from hx)]
    rfl
  have hidx:ze a.positions (x:Int)=some (a.positions[x]'hx):=zD (List.getElem?_eq_getElem (show x < a.positions.length from hx))
  unfold kT
  refine Ret.bindE (zV hx) ?_
  refine Ret.bindE (xS (by omega)) ?_
  rw [hw1]
  by_cases e1:at_ r x = -1
  · have e1b:(at_ r x == -1)=true:=by rw [e1];rfl
    by_cases e2:(gm c a).own x=false∨at_ o x - 1=0
    · refine Ret.bindE (v:=true) ?_ ?_
      · rw [zV hx]
        simp only [Option.bind_some]
        rw [xS (by omega:x < r.length)]
        simp only [Option.bind_some,e1b,cond_true,hidx]
        rw [←hown]
        rcases e2 with e2 | e2
        · rw [e2];rfl
        · rw [hget]
          simp only [Option.bind_some,e2]
          cases (gm c a).own x<;>rfl
      · refine Ret.ite (fun _ => ?_) (fun h=>by cases h)
        refine Ret.bindE (zV hun) ?_
        refine Ret.bindE (xS (by omega)) ?_
        rw [hw2]
        refine Ret.bindE (Wd nx hx hr (by rw [yq];omega)) ?_
        refine Ret.some ⟨by simp [ho],by simp [hr],Q++[x],?_,?_,?_⟩
        · rw [show P++u::(Q++[x])=(P++u::Q)++[x] by simp];exact (Jd (P++u::Q) [x]).symm
        · rw [hso,yO (by omega)]
          exact h.settle A.closed hx hcn e1 e2
        · intro i hi
          simp only
          rw [yO (by omega)]
          have:=hb i hi
          unfold upd
          simp only [List.length_append,List.length_cons,List.length_nil] at this hbu ⊢
          split<;>omega
    · refine Ret.bindE (v:=false) ?_ ?_
      · rw [zV hx]
        simp only [Option.bind_some]
        rw [xS (by omega:x < r.length)]
        simp only [Option.bind_some,e1b,cond_true,hidx]
        rw [←hown]
        have e3:(gm c a).own x=true:=by
          cases hq:(gm c a).own x with
          | true=>rfl
          | false=>exact absurd (.inl hq) e2
        rw [e3,hget]
        simp only [Option.bind_some,cond_true]
        rw [beq_eq_false_iff_ne.2 (fun h=>e2 (.inr h))]
      · refine Ret.ite (fun h=>by cases h) (fun _ => ?_)
        refine Ret.some ⟨by simp [ho],hr,Q,rfl,?_,hb⟩
        rw [hso]
        exact h.skip hx hcn (.inr ⟨by cases hq:(gm c a).own x with
          | true=>rfl
          | false=>exact absurd (.inl hq) e2,fun h=>e2 (.inr h)⟩)
  · have e1b:(at_ r x == -1)=false:=beq_eq_false_iff_ne.2 e1
    refine Ret.bindE (v:=false) ?_ ?_
    · rw [zV hx]
      simp only [Option.bind_some]
      rw [xS (by omega:x < r.length)]
      simp only [Option.bind_some,e1b,cond_false]
    · refine Ret.ite (fun h=>by cases h) (fun _ => ?_)
      refine Ret.some ⟨by simp [ho],hr,Q,rfl,?_,hb⟩
      rw [hso]
      exact h.skip hx hcn (.inl e1)
theorem zf3 {l:List Nat} {k:Nat} (hl:l.length≤4000) (hk:k≤l.length):xH (cst l) (k:Int)=some (match l[k]? with | some u=>((u:Int),true,(k:Int)+1) | none=>(0,false,(k:Int))):=by
  unfold xH
  rw [yq]
  by_cases e:k=l.length
  · rw [e,List.getElem?_eq_none (Nat.le_refl _)];simp
  · have h:k < l.length:=by omega
    have w1:IntKind.i64.wrap ((k:Int)+1)=(k:Int)+1:=qC (by omega) (by omega)
    have w2:IntKind.i64.wrap ((k:Int)+1 - 1)=(k:Int):=by rw [show (k:Int)+1 - 1=(k:Int) by omega];exact qC (by omega) (by omega)
    rw [beq_eq_false_iff_ne.2 (show (k:Int)≠(l.length:Int) by omega),w1,w2,List.getElem?_eq_getElem h]
    simp only [cond_false]
    rw [zD (l:=cst l) (i:=k) (e:=(l[k]:Int)) (by unfold cst;rw [List.getElem?_map,List.getElem?_eq_getElem h];rfl)]
    rfl
end
end
section
section
variable {c:ContractT} {party:Int} {p:PosT} {a:ArenaT}
def j7 (G:Gm) (i:Nat):Bool:=G.own i&&(!(G.lost i)&&(G.succ i).isEmpty)
def r2 (G:Gm) (i j:Nat):Int:=if G.lost j=true then 0 else if j7 G j=true∧j < i then 1 else -1
def K2 (G:Gm) (i:Nat):List Nat:=(List.range G.n).filter G.lost++(List.range i).filter (j7 G)
structure L3 (G:Gm) (i:Nat) (s:List Int×List Int):Prop where
  lr:s.1.length=G.n
  r:∀ j,j < G.n→at_ s.1 j=r2 G i j
  k:s.2=cst (K2 G i)
theorem zhA (G:Gm) (i:Nat):(K2 G i).length≤G.n+i:=by
  unfold K2
  rw [List.length_append]
  have h1:=List.length_filter_le G.lost (List.range G.n)
  have h2:=List.length_filter_le (j7 G) (List.range i)
  rw [List.length_range] at h1 h2
  omega
theorem zdE {G:Gm} {r o:Nat→Int} (hr:∀ j,j < G.n→r j=r2 G G.n j) (ho:∀ j,j < G.n→o j=((G.succ j).length:Int)):BInv G r o [] (K2 G G.n)∧Bnd G r (K2 G G.n).length:=by
  have tl:∀ j,j7 G j=true→G.own j=true∧G.lost j=false∧G.succ j=[]:=fun j h=>by
    simpa [j7,Bool.and_eq_true,List.isEmpty_iff] using h
  have rl:∀ j,j < G.n→G.lost j=true→r j=0:=fun j hj h=>by rw [hr j hj];unfold r2;rw [if_pos h]
  have rt:∀ j,j < G.n→j7 G j=true→r j=1:=fun j hj h=>by
    rw [hr j hj];unfold r2;rw [if_neg (by rw [(tl j h).2.1];simp),if_pos ⟨h,hj⟩]
  have rn:∀ j,j < G.n→G.lost j=false→j7 G j=false→r j = -1:=fun j hj h h2=>by
    rw [hr j hj];unfold r2;rw [if_neg (by rw [h];simp),if_neg (by rw [h2];simp)]
  have three:∀ j,j < G.n→(G.lost j=true∧r j=0)∨(j7 G j=true∧G.lost j=false∧r j=1)∨(G.lost j=false∧j7 G j=false∧r j = -1):=fun j hj=>by
    cases h:G.lost j with
    | true=>exact .inl ⟨rfl,rl j hj h⟩
    | false=>cases h2:j7 G j with
      | true=>exact .inr (.inl ⟨rfl,rfl,rt j hj h2⟩)
      | false=>exact .inr (.inr ⟨rfl,rfl,rn j hj h h2⟩)
  have hm:∀ j,j∈K2 G G.n↔j < G.n∧(G.lost j=true∨j7 G j=true):=fun j=>by
    unfold K2
    rw [List.mem_append,List.mem_filter,List.mem_filter,List.mem_range]
    constructor
    · rintro (⟨h1,h2⟩ | ⟨h1,h2⟩)
      · exact ⟨h1,.inl h2⟩
      · exact ⟨h1,.inr h2⟩
    · rintro ⟨h1,h2 | h2⟩
      · exact .inl ⟨h1,h2⟩
      · exact .inr ⟨h1,h2⟩
  have hle:∀ x∈K2 G G.n,r x≤1∧0≤r x:=fun x hx=>by
    obtain ⟨h1,h2⟩:=(hm x).1 hx
    rcases three x h1 with ⟨_,h⟩ | ⟨_,_,h⟩ | ⟨h3,h4,h⟩
    · omega
    · omega
    · rw [h3,h4] at h2;simp at h2
  refine ⟨⟨⟨?_,fun x hx=>((hm x).1 hx).1,fun i hi => ?_,fun i hi => ?_,?_,fun i hi => ?_,fun i hi => ?_,fun i hi h1 h2 h3 => ?_,fun i hi h1 h2 h3 => ?_,fun i hi h1 h2 h3 => ?_,fun i hi h1 h2 h3=>⟨fun t ht h=>(by cases h),rfl⟩⟩,fun q Q' hq x hx => ?_⟩,fun i hi => ?_⟩
  · rw [List.nil_append]
    unfold K2
    refine List.nodup_append.2 ⟨List.nodup_range.sublist List.filter_sublist,List.nodup_range.sublist List.filter_sublist,fun x hx y hy e => ?_⟩
    subst e
    have h1:=(List.mem_filter.1 hx).2
    have h2:=(tl x (List.mem_filter.1 hy).2).2.1
    rw [h1] at h2;cases h2
  · rw [List.nil_append,hm i]
    rcases three i hi with ⟨h1,h⟩ | ⟨h1,_,h⟩ | ⟨h3,h4,h⟩
    · rw [h];simp [hi,h1]
    · rw [h];simp [hi,h1]
    · rw [h];simp [h3,h4]
  · rcases three i hi with ⟨_,h⟩ | ⟨_,_,h⟩ | ⟨_,_,h⟩<;>omega
  · rw [List.nil_append]
    unfold K2
    refine List.pairwise_append.2 ⟨?_,?_,fun x hx y hy => ?_⟩
    · refine List.pairwise_of_forall_mem_list fun x hx y hy => ?_
      have h1:=(List.mem_filter.1 hx);have h2:=(List.mem_filter.1 hy)
      rw [rl x (List.mem_range.1 h1.1) h1.2,rl y (List.mem_range.1 h2.1) h2.2];omega
    · refine List.pairwise_of_forall_mem_list fun x hx y hy => ?_
      have h1:=(List.mem_filter.1 hx);have h2:=(List.mem_filter.1 hy)
      rw [rt x (List.mem_range.1 h1.1) h1.2,rt y (List.mem_range.1 h2.1) h2.2];omega
    · have h1:=(List.mem_filter.1 hx);have h2:=(List.mem_filter.1 hy)
      rw [rl x (List.mem_range.1 h1.1) h1.2,rt y (List.mem_range.1 h2.1) h2.2];omega
  · rw [ho i hi]
    have:(G.succ i).countP (wP [])=(G.succ i).length:=List.countP_eq_length.2 fun x _=>by simp [wP]
    rw [this];simp
  · rcases three i hi with ⟨h1,h⟩ | ⟨_,h1,h⟩ | ⟨h1,_,h⟩<;>rw [h,h1]<;>simp
  · rcases three i hi with ⟨h4,h⟩ | ⟨h4,_,h⟩ | ⟨_,_,h⟩
    · rw [h2] at h4;cases h4
    · have h5:=(tl i h4).2.2
      rw [ho i hi,h5,h]
      exact ⟨rfl,fun t ht=>(by cases ht),.inl ⟨rfl,rfl⟩⟩
    · exact absurd h h3
  · rw [ho i hi]
    intro h5
    have h6:G.succ i=[]:=List.eq_nil_of_length_eq_zero (by omega)
    have h7:=rt i hi (by simp [j7,h1,h2,h6])
    omega
  · rcases three i hi with ⟨h4,h⟩ | ⟨h4,_,h⟩ | ⟨_,_,h⟩
    · rw [h2] at h4;cases h4
    · have h5:=(tl i h4).1;rw [h1] at h5;cases h5
    · exact absurd h h3
  · rw [List.nil_append] at hx
    have h1:=(hle x hx).1
    have h2:=(hle q (by rw [hq];simp)).2
    omega
  · rcases three i hi with ⟨_,h⟩ | ⟨h1,_,h⟩ | ⟨_,_,h⟩
    · omega
    · have:0 < (K2 G G.n).length:=List.length_pos_of_mem ((hm i).2 ⟨hi,.inr h1⟩)
      omega
    · omega
structure QI (G:Gm) (bef:List (List Int)) (s:Int×Bool×List Int×List Int×List Int×Int):Prop where
  lr:s.2.2.1.length=G.n
  lo:s.2.2.2.1.length=G.n
  inv:∃ P Q,BInv G (at_ s.2.2.1) (at_ s.2.2.2.1) P Q∧Bnd G (at_ s.2.2.1) (P++Q).length∧s.2.2.2.2.1=cst (P++Q)∧((s.2.1=false∧Q=[]∧s.2.2.2.2.2=(P.length:Int))∨(s.2.1=true∧∃ u Q',Q=u::Q'∧s.1=(u:Int)∧s.2.2.2.2.2=(P.length:Int)+1))
theorem We {l:List Nat} {k:Nat} (hk:k < l.length) (x:Nat):(l.take (k+1)).count x=upd (fun y=>(l.take k).count y) l[k] ((l.take k).count l[k]+1) x:=by
  rw [List.take_succ_eq_append_getElem hk,List.count_append]
  unfold upd
  by_cases e:x=l[k]
  · rw [if_pos e,e];simp
  · rw [if_neg e,List.count_cons_of_ne (fun h=>e h.symm)];simp
theorem zdF {l:List Nat} {k:Nat} (hk:k < l.length):(fun y=>(l.take (k+1)).count y)=upd (fun y=>(l.take k).count y) l[k] ((l.take k).count l[k]+1):=funext fun x=>We hk x
theorem zdG {G:Gm} {bef:List (List Int)} {P Q:List Nat} {r o:List Int} (hn:G.n≤1500) (hr:r.length=G.n) (ho:o.length=G.n) (h:BInv G (at_ r) (at_ o) P Q) (hb:Bnd G (at_ r) (P++Q).length) :
    ∃ z:Int×Bool×Int,xH (cst (P++Q)) (P.length:Int)=some z∧QI G bef (z.1,z.2.1,r,o,cst (P++Q),z.2.2)∧((z.2.1=false∧z.2.2=(P.length:Int))∨(z.2.1=true∧z.2.2=(P.length:Int)+1))∧P.length≤G.n:=by
  have hK:(P++Q).length≤G.n:=by
    have:=xU (L2:=List.range G.n) h.core.nd (fun y hy=>List.mem_range.2 (h.core.lt y hy))
    rwa [List.length_range] at this
  refine ⟨_,zf3 (by omega) (by simp),?_⟩
  cases Q with
  | nil=>
    rw [List.append_nil,List.getElem?_eq_none (Nat.le_refl _)]
    exact ⟨⟨hr,ho,P,[],h,hb,by rw [List.append_nil],.inl ⟨rfl,rfl,rfl⟩⟩,.inl ⟨rfl,rfl⟩,by simpa using hK⟩
  | cons u Q'=>
    rw [List.getElem?_append_right (Nat.le_refl _),Nat.sub_self]
    exact ⟨⟨hr,ho,P,u::Q',h,hb,rfl,.inr ⟨rfl,u,Q',rfl,rfl,rfl⟩⟩,.inr ⟨rfl,rfl⟩,by rw [List.length_append] at hK;omega⟩
theorem VK (hc:c.Ok) (A:ArOk c party p a):Ret (xv c a) (fun r=>r.length=a.positions.length∧Qd (gm c a) (at_ r)∧∀ i,i < a.positions.length→at_ r i≤1500):=by
  have hn:a.positions.length≤1500:=A.F.inv.len
  have hgn:(gm c a).n=a.positions.length:=rfl
  unfold xv
  refine Ret.bindE (Kt hc A) ?_
  refine Ret.ite (fun _ => ?_) (fun h=>by cases h)
  refine Ret.bindE (WR hn (by omega)) ?_
  refine Ret.bindE (WR hn (by omega)) ?_
  refine Ret.bindE (WR hn (by omega)) ?_
  refine Ret.bind (P:=fun o:(List Int×List Int×List (List Int)×List Int) ⊕ Unit=>∃ s,o=.inl s∧L2 (gm c a) a.positions.length s) (Ret.forL (L2 (gm c a)) (by omega) ?_ (fun i s hi hs => ?_) (fun s h=>⟨s,rfl,h⟩)) ?_
  · refine ⟨by simp [hgn],by simp [hgn],⟨by simp [hgn],fun t ht=>⟨[],?_,by simp,fun x => ?_⟩⟩,fun j hj=>by omega,fun j hj=>by omega,rfl⟩
    · rw [List.getElem?_replicate,if_pos (by rw [←hgn];exact ht)];rfl
    · simp
  · obtain ⟨R,O,B,K⟩:=s
    obtain ⟨hlr,hlo,hbef,hr,ho,hk⟩:=hs
    simp only at hlr hlo hbef hr ho hk ⊢
    obtain ⟨T,hT,hM⟩:=A.mv hi
    have hTl:=A.len hc hi hT
    have hsucc:=A.succ hi hT
    have hlostE:(gm c a).lost i=jz c a.positions[i].state a.party:=by
      show (match a.positions[i]? with | some q=>jz c q.state a.party | none=>false)=_
      rw [List.getElem?_eq_getElem hi]
    refine Ret.bind (P:=fun v=>L2 (gm c a) (i+1) v) ?_ (fun v hv=>Ret.some hv)
    refine Ret.bindE (zD (List.getElem?_eq_getElem hi)) ?_
    refine Ret.bindE (zD hT) ?_
    refine Ret.bindE (zV hi) ?_
    refine Ret.bindE (xS (by omega)) ?_
    refine Ret.bindE (zV hi) ?_
    refine Ret.bindE (xS (by omega)) ?_
    refine Ret.bindE (zD hT) ?_
    refine Ret.bind (P:=fun o:List (List Int) ⊕ Unit=>∃ b,o=.inl b∧L1 (gm c a) i T.length b) (Ret.forL (fun k b=>L1 (gm c a) i k b) (by omega) hbef (fun k b hk2 hb => ?_) (fun b h=>⟨b,rfl,h⟩)) ?_
    · have hto:=A.to hi hT (List.getElem_mem hk2)
      refine Ret.bindE (zD (List.getElem?_eq_getElem hk2)) ?_
      have h1:(gm c a).succ i=T.map fun m=>m.to.toNat:=hsucc
      have h2:=hb.step (G:=gm c a) hn hi (by omega) (to:=T[k].to.toNat) (by rw [h1,List.getElem?_map,List.getElem?_eq_getElem hk2];rfl) (by rw [hgn];omega)
      rw [Int.toNat_of_nonneg hto.1] at h2
      exact Ret.bind h2 (fun v hv=>Ret.some hv)
    · rintro _ ⟨b,rfl,hb⟩
      simp only [Sum.elim_inl]
      have hb':=hb.next (by rw [hsucc,List.length_map]) hTl
      have hR1:at_ (R.set i (-1))=upd (at_ R) i (-1):=yO (by omega) _
      have hO1:at_ (O.set i (T.length:Int))=upd (at_ O) i (T.length:Int):=yO (by omega) _
      have hoo:∀ j,j < i+1→upd (at_ O) i (T.length:Int) j=(((gm c a).succ j).length:Int):=fun j hj=>by
        unfold upd
        by_cases e:j=i
        · rw [if_pos e,e,hsucc,List.length_map]
        · rw [if_neg e];exact ho j (by omega)
      have hrange:(List.range (i+1)).filter (gm c a).lost=(List.range i).filter (gm c a).lost++(bif (gm c a).lost i then [i] else []):=by
        rw [List.range_succ,List.filter_append]
        cases h:(gm c a).lost i<;>simp [h]
      refine Ret.bindE (zhz hc (A.F.inv.vs _ (List.getElem_mem hi)) a.party) ?_
      refine Ret.ite (fun hl => ?_) (fun hl => ?_)
      · rw [←hlostE] at hl
        refine Ret.bindE (zV hi) ?_
        refine Ret.bindE (List.getElem?_set_self (by omega)) ?_
        have hK:K.length≤1500:=by
          rw [hk,yq]
          have:=List.length_filter_le (gm c a).lost (List.range i)
          rw [List.length_range] at this;omega
        refine Ret.bindE (Ku 0 (by omega)) ?_
        refine Ret.some ⟨by simp [hlr],by simp [hlo],hb',fun j hj => ?_,fun j hj => ?_,?_⟩
        · simp only
          rw [List.set_set,yO (by omega)]
          unfold upd
          by_cases e:j=i
          · rw [if_pos e,e,if_pos hl]
          · rw [if_neg e];exact hr j (by omega)
        · simp only;rw [hO1];exact hoo j hj
        · simp only;rw [hk,hrange,hl,cond_true,Jd];rfl
      · rw [←hlostE] at hl
        refine Ret.some ⟨by simp [hlr],by simp [hlo],hb',fun j hj => ?_,fun j hj => ?_,?_⟩
        · simp only
          rw [hR1]
          unfold upd
          by_cases e:j=i
          · rw [if_pos e,e,if_neg (by rw [hl];simp)]
          · rw [if_neg e];exact hr j (by omega)
        · simp only;rw [hO1];exact hoo j hj
        · simp only;rw [hk,hrange,hl,cond_false,List.append_nil]
  · rintro _ ⟨⟨R,O,B,K⟩,rfl,hlr,hlo,hbef,hr,ho,hk⟩
    simp only [Sum.elim_inl] at hlr hlo hbef hr ho hk ⊢
    refine Ret.bind (P:=fun o:(List Int×List Int) ⊕ Unit=>∃ s,o=.inl s∧L3 (gm c a) a.positions.length s) (Ret.forL (L3 (gm c a)) (by omega) ?_ (fun i s hi hs => ?_) (fun s h=>⟨s,rfl,h⟩)) ?_
    · refine ⟨hlr,fun j hj => ?_,?_⟩
      · rw [hr j hj];unfold r2
        split
        · rfl
        · rw [if_neg (by omega)]
      · simp only;rw [hk];unfold K2;rw [List.range_zero,List.filter_nil,List.append_nil];rfl
    · obtain ⟨R1,K1⟩:=s
      obtain ⟨h1,h2,h3⟩:=hs
      simp only at h1 h2 h3 ⊢
      have hown:(gm c a).own i=a.positions[i].own:=by
        show (match a.positions[i]? with | some q=>q.own | none=>false)=_
        rw [List.getElem?_eq_getElem hi]
      have hsame:j7 (gm c a) i=false→L3 (gm c a) (i+1) (R1,K1):=fun ht=>by
        refine ⟨h1,fun j hj => ?_,?_⟩
        · simp only;rw [h2 j hj];unfold r2
          split
          · rfl
          · by_cases e:j=i
            · subst e;rw [if_neg (by rw [ht];simp),if_neg (by rw [ht];simp)]
            · by_cases e2:j7 (gm c a) j=true∧j < i
              · rw [if_pos e2,if_pos ⟨e2.1,by omega⟩]
              · rw [if_neg e2,if_neg (fun h=>e2 ⟨h.1,by have:=h.2;omega⟩)]
        · simp only;rw [h3];unfold K2;rw [List.range_succ,List.filter_append];simp [ht]
      refine Ret.bind (P:=fun v=>L3 (gm c a) (i+1) v) ?_ (fun v hv=>Ret.some hv)
      refine Ret.bindE (zD (List.getElem?_eq_getElem hi)) ?_
      have hv3:(bif a.positions[i].own then (Option.bind (zl a.positions.length (i:Int)) fun k7=>(Option.bind (O[k7]?) fun e9=>(bif (e9 == 0) then (Option.bind (zl a.positions.length (i:Int)) fun k8=>(Option.bind (R1[k8]?) fun e10=>some (e10 == (-1)))) else some false))) else some false)=some (j7 (gm c a) i):=by
        rw [zV hi]
        simp only [Option.bind_some]
        rw [xS (by omega:i < O.length),xS (by omega:i < R1.length)]
        simp only [Option.bind_some]
        rw [ho i hi,h2 i hi,←hown]
        unfold j7 r2
        cases e1:(gm c a).own i with
        | false=>rfl
        | true=>
          cases e2:(gm c a).succ i with
          | cons x l=>
            rw [beq_eq_false_iff_ne.2 (by simp;omega)];simp
          | nil=>
            cases e3:(gm c a).lost i with
            | true=>rfl
            | false=>simp
      refine Ret.bindE hv3 ?_
      refine Ret.ite (fun ht => ?_) (fun ht=>Ret.some (hsame ht))
      have hK1:K1.length≤4000:=by
        rw [h3,yq]
        have:=zhA (gm c a) i
        omega
      refine Ret.bindE (Wd 0 hi h1 hK1) ?_
      refine Ret.some ⟨by simp [h1],fun j hj => ?_,?_⟩
      · simp only
        rw [yO (by omega)]
        unfold upd
        by_cases e:j=i
        · subst e
          have h4:(gm c a).lost j=false:=by
            simp only [j7,Bool.and_eq_true,Bool.not_eq_true'] at ht;exact ht.2.1
          rw [if_pos rfl];unfold r2;rw [if_neg (by rw [h4];simp),if_pos ⟨ht,by omega⟩]
        · rw [if_neg e,h2 j hj];unfold r2
          split
          · rfl
          · by_cases e2:j7 (gm c a) j=true∧j < i
            · rw [if_pos e2,if_pos ⟨e2.1,by omega⟩]
            · rw [if_neg e2,if_neg (fun h=>e2 ⟨h.1,by have:=h.2;omega⟩)]
      · simp only;rw [h3];unfold K2;rw [List.range_succ,List.filter_append,←List.append_assoc,Jd];simp [ht,cst]
    · rintro _ ⟨⟨R1,K1⟩,rfl,h1,h2,h3⟩
      simp only [Sum.elim_inl] at h1 h2 h3 ⊢
      obtain ⟨hB,hbd⟩:=zdE (G:=gm c a) (r:=at_ R1) (o:=at_ O) h2 ho
      have hQ0:=zdG (bef:=B) (P:=[]) hn h1 hlo hB (by rw [List.nil_append];exact hbd)
      refine Ret.bind (P:=fun v:List Int=>v.length=(gm c a).n∧Qd (gm c a) (at_ v)∧∀ i,i < (gm c a).n→at_ v i≤1500) ?_ ?_
      · obtain ⟨z,hz,hq,_⟩:=hQ0
        have hK1:K1=cst ([]++K2 (gm c a) (gm c a).n):=by rw [h3,List.nil_append];rfl
        rw [hK1]
        refine Ret.bindE hz ?_
        refine Ret.bind (P:=fun y:List Int=>y.length=(gm c a).n∧Qd (gm c a) (at_ y)∧∀ i,i < (gm c a).n→at_ y i≤1500) (Ret.iter (QI (gm c a) B) (fun s=>2*((gm c a).n+2 - s.2.2.2.2.2.toNat)+(bif s.2.1 then 1 else 0)) hq (fun s hs => ?_)) (fun y hy=>Ret.some hy)
        obtain ⟨to,ok,R2,O2,K3,nx⟩:=s
        obtain ⟨g1,g2,P,Q,g3,g4,g5,g6⟩:=hs
        simp only at g1 g2 g3 g4 g5 g6 ⊢
        have hKn:(P++Q).length≤(gm c a).n:=by
          have:=xU (L2:=List.range (gm c a).n) g3.core.nd (fun y hy=>List.mem_range.2 (g3.core.lt y hy))
          rwa [List.length_range] at this
        rcases g6 with ⟨rfl,rfl,g7⟩ | ⟨rfl,u,Q',rfl,rfl,rfl⟩
        · refine Ret.ite (fun h=>by cases h) (fun _ => ?_)
          exact Ret.some ⟨g1,(g3.done A.closed).ok A.closed,fun i hi=>by have:=g4 i hi;omega⟩
        · refine Ret.ite (fun _ => ?_) (fun h=>by cases h)
          have E:=g3.enter
          obtain ⟨_,hun,_⟩:=E.core.split
          obtain ⟨l,l1,l2,l3⟩:=hbef.row u hun
          have hcount:∀ x,x < (gm c a).n→l.count x=((gm c a).succ x).count u:=fun x hx=>by rw [l3 x,if_pos (by rw [←hgn];exact hx)]
          have hlmem:∀ x∈l,x < (gm c a).n:=fun x hx=>by
            have h5:0 < l.count x:=List.count_pos_iff.2 hx
            rw [l3 x] at h5
            split at h5
            · rename_i h6;exact h6
            · split at h5
              · simp at h5
              · omega
          refine Ret.bindE (zV hun) ?_
          refine Ret.bindE l1 ?_
          refine Ret.bind (P:=fun o:(List Int×List Int×List Int) ⊕ Unit=>∃ s5,o=.inl s5∧s5.1.length=(gm c a).n∧s5.2.1.length=(gm c a).n∧∃ Q2,s5.2.2=cst (P++u::Q2)∧EInv (gm c a) (at_ s5.1) (at_ s5.2.1) P u Q2 (fun y=>l.count y)∧Bnd (gm c a) (at_ s5.1) (P++u::Q2).length) ?_ ?_
          · rw [yq]
            refine Ret.forL (fun k s5=>s5.1.length=(gm c a).n∧s5.2.1.length=(gm c a).n∧∃ Q2,s5.2.2=cst (P++u::Q2)∧EInv (gm c a) (at_ s5.1) (at_ s5.2.1) P u Q2 (fun y=>(l.take k).count y)∧Bnd (gm c a) (at_ s5.1) (P++u::Q2).length) (by omega) ⟨g1,g2,Q',g5,by simpa using E,g4⟩ (fun k s5 hk hs5 => ?_) (fun s5 h=>⟨s5,rfl,by rw [List.take_length] at h;exact h⟩)
            obtain ⟨R4,O4,K4⟩:=s5
            obtain ⟨i1,i2,Q2,i3,i4,i5⟩:=hs5
            simp only at i1 i2 i3 i4 i5 ⊢
            have hx:=hlmem _ (List.getElem_mem hk)
            refine Ret.bindE (zD (e:=(l[k]:Int)) (by unfold cst;rw [List.getElem?_map,List.getElem?_eq_getElem hk];rfl)) ?_
            rw [i3]
            refine Ret.bind (zeK hc A _ i1 i2 i4 i5 hx ?_) (fun z hz => ?_)
            · have h6:=We hk l[k]
              unfold upd at h6
              rw [if_pos rfl] at h6
              have h7:(l.take (k+1)).count l[k]≤l.count l[k]:=(List.take_sublist _ _).count_le _
              rw [hcount _ hx] at h7
              show (l.take k).count l[k] < _
              omega
            · obtain ⟨j1,j2,Q3,j3,j4,j5⟩:=hz
              refine Ret.some ⟨j2,j1,Q3,j3,?_,j5⟩
              simp only
              rw [zdF hk];exact j4
          · rintro _ ⟨⟨R4,O4,K4⟩,rfl,i1,i2,Q2,i3,i4,i5⟩
            simp only [Sum.elim_inl] at i1 i2 i3 i4 i5 ⊢
            have hB2:=i4.leave hcount
            have hPQ:P++[u]++Q2=P++u::Q2:=by simp
            obtain ⟨z2,hz2,hq2,hz3,hz4⟩:=zdG (bef:=B) (P:=P++[u]) (Q:=Q2) hn i1 i2 hB2 (by rw [hPQ];exact i5)
            rw [hPQ] at hz2 hq2
            rw [i3]
            have hnx:((P++[u]).length:Int)=(P.length:Int)+1:=by simp
            rw [hnx] at hz2
            refine Ret.bindE hz2 ?_
            refine Ret.some ⟨hq2,?_⟩
            simp only [cond_true]
            rw [List.length_append] at hz3 hz4
            simp only [List.length_cons,List.length_nil] at hz3 hz4
            rcases hz3 with ⟨e1,e2⟩ | ⟨e1,e2⟩
            · rw [e1,e2,cond_false];omega
            · rw [e1,e2,cond_true];omega
      · intro v hv
        refine Ret.bindE (wB (hgn.symm.trans hv.1.symm)) ?_
        exact Ret.some hv
end
end
theorem StartP.get {c:ContractT} {hs:List Int} {ms r:List MarkT} (h:StartP c hs ms r) {i:Nat} {m:MarkT} (hi:i < c.clauses.length) (hm:ms[i]?=some m) (h0:m.status≠0):r[i]?=some m:=by
  have hl:i < r.length:=by rw [h.ok.1];exact hi
  rw [List.getElem?_eq_getElem hl]
  rcases h.rel i m r[i] hm (List.getElem?_eq_getElem hl) with e | ⟨e,_⟩
  · rw [e]
  · exact absurd e h0
theorem VL {c:ContractT} {s:StateT} {party:Int}:jz c s party=true↔∃ (i:Nat) (k:ClauseT) (m:MarkT),c.clauses[i]?=some k∧s.marks[i]?=some m∧k.final=true∧m.status=4∧m.bearer=party:=by
  unfold jz
  rw [Bool.not_eq_true',List.all_eq_false]
  constructor
  · rintro ⟨i,hi,h⟩
    simp only [Bool.not_eq_true',Bool.not_eq_false,WQ] at h
    split at h
    · rename_i k m hk hm
      simp only [Bool.and_eq_true,beq_iff_eq] at h
      exact ⟨i,k,m,hk,hm,h.1,h.2.1,h.2.2⟩
    · cases h
  · rintro ⟨i,k,m,hk,hm,h1,h2,h3⟩
    refine ⟨i,List.mem_range.2 (List.getElem?_eq_some_iff.1 hm).1,?_⟩
    simp [WQ,hk,hm,h1,h2,h3]
theorem zbS {c:ContractT} {party:Int} {q:PosT} {m:Int} (hm:m∈zA c party q):(m = -2∧q.own=true)∨(-1≤m∧m < c.acts.length∧q.state.day < c.days):=by
  rcases wh.1 hm with ⟨h1,h2⟩ | ⟨h1,_,h2⟩ | ⟨h1,i,h2,_,h3⟩
  · exact .inl ⟨h2,h1⟩
  · exact .inr ⟨by omega,by omega,h1⟩
  · exact .inr ⟨by omega,by omega,h1⟩
theorem Jx (c:ContractT) (q:PosT):target c q (-2)={state:=q.state,own:=false}:=if_pos rfl
theorem Jy (c:ContractT) (q:PosT) {m:Int} (h : -1≤m):target c q m={state:=jn c q.state m,own:=true}:=if_neg (by omega)
theorem zeL {c:ContractT} {party:Int} {p:PosT} {r:ArenaT×Int} (h:jS c party p=some r) (hr:r.2≠0):r.1=Wc:=by
  unfold jS at h
  obtain ⟨b,_,h⟩:=xM h
  cases b with
  | false=>cases h;rfl
  | true=>
    rw [cond_true] at h
    obtain ⟨_,_,h⟩:=xM h
    obtain ⟨_,_,h⟩:=xM h
    obtain ⟨o,_,h⟩:=xM h
    cases o with
    | inl s=>cases h;exact absurd rfl hr
    | inr u=>cases h;rfl
theorem zdH {c:ContractT} {party:Int} {r:ArenaT×Int} (h:jY c party=some r) (hr:r.2≠0):r.1=Wc:=by
  unfold jY at h
  obtain ⟨s,_,h⟩:=xM h
  cases hs:(s.2 == 0) with
  | true=>
    rw [hs,cond_true] at h
    obtain ⟨f,hf,h⟩:=xM h
    cases h
    exact zeL hf hr
  | false=>rw [hs] at h;cases h;rfl
def zhB (c:ContractT) (party:Int) (r:ArenaT×Int):Prop:=(r.2≠0∧r.1=Wc)∨(r.2=0∧∃ s0,qK c=some (s0,0)∧VS c s0∧ArOk c party {state:=s0,own:=true} r.1)
theorem zf4 {c:ContractT} (hc:c.Ok) (party:Int):Ret (jY c party) (zhB c party):=by
  obtain ⟨r,hr,h⟩:=zdC hc party
  refine ⟨r,hr,?_⟩
  rcases h with h | ⟨h,s0,h1,h2,h3,h4,h5,h6⟩
  · exact .inl ⟨h,zdH hr h⟩
  · exact .inr ⟨h,s0,h1,h2,h3,h4,h5,h6⟩
section
section
variable {c:ContractT} {party:Int} {p:PosT} {a:ArenaT}
theorem ArOk.lost (A:ArOk c party p a) {i:Nat} (hi:i < a.positions.length):(gm c a).lost i=jz c a.positions[i].state party:=by
  show (match a.positions[i]? with | some q=>jz c q.state a.party | none=>false)=_
  rw [List.getElem?_eq_getElem hi,A.pa]
theorem ArOk.own (A:ArOk c party p a) {i:Nat} (hi:i < a.positions.length):(gm c a).own i=a.positions[i].own:=by
  show (match a.positions[i]? with | some q=>q.own | none=>false)=_
  rw [List.getElem?_eq_getElem hi]
theorem ArOk.pos (A:ArOk c party p a):0 < a.positions.length:=(List.getElem?_eq_some_iff.1 A.F.first).1
theorem ArOk.tgt (A:ArOk c party p a) {i:Nat} (hi:i < a.positions.length) {T:List MoveT} (hT:a.moves[i]?=some T) {m:MoveT} (hm:m∈T) :
    m.step∈zA c party a.positions[i]∧0≤m.to∧∃ h:m.to.toNat < a.positions.length,a.positions[m.to.toNat]=target c a.positions[i] m.step:=by
  obtain ⟨T',h1,h2,h3⟩:=A.mv hi
  rw [hT] at h1;cases h1
  obtain ⟨h4,h5⟩:=h3 m hm
  obtain ⟨h6,h7⟩:=List.getElem?_eq_some_iff.1 h5
  exact ⟨by rw [←h2];exact List.mem_map.2 ⟨m,hm,rfl⟩,h4,h6,h7⟩
theorem ArOk.ne (A:ArOk c party p a) {i:Nat} (hi:i < a.positions.length) {T:List MoveT} (hT:a.moves[i]?=some T) (ho:a.positions[i].own=true):T≠[]:=by
  obtain ⟨T',h1,h2,_⟩:=A.mv hi
  rw [hT] at h1;cases h1
  intro e
  subst e
  have:(-2:Int)∈zA c party a.positions[i]:=wh.2 (.inl ⟨ho,rfl⟩)
  rw [←h2] at this;cases this
end
end
section
def AttrP (c:ContractT) (party:Int):Nat→PosT→Prop
  | 0,q=>jz c q.state party=true
  | k+1,q=>jz c q.state party=true∨(q.own=true∧∀ m∈zA c party q,AttrP c party k (target c q m))∨(q.own=false∧∃ m∈zA c party q,AttrP c party k (target c q m))
def zja (c:ContractT) (party:Int) (q:PosT):Prop:=∀ k,¬ AttrP c party k q
theorem AttrP.zero {c:ContractT} {party:Int} {q:PosT} (h:jz c q.state party=true):∀ k,AttrP c party k q
  | 0=>h
  | k+1=>.inl h
theorem AttrP.succ1 {c:ContractT} {party:Int}:∀ {k:Nat} {q:PosT},AttrP c party k q→AttrP c party (k+1) q
  | 0,q,h=>.inl h
  | k+1,q,h=>by
    rcases h with h | ⟨h1,h2⟩ | ⟨h1,t,h2,h3⟩
    · exact .inl h
    · exact .inr (.inl ⟨h1,fun t ht=>(h2 t ht).succ1⟩)
    · exact .inr (.inr ⟨h1,t,h2,h3.succ1⟩)
theorem AttrP.mono {c:ContractT} {party:Int} {k k':Nat} {q:PosT} (hk:k≤k') (h:AttrP c party k q):AttrP c party k' q:=by
  induction hk with
  | refl=>exact h
  | step _ ih=>exact ih.succ1
section
variable {c:ContractT} {party:Int} {p:PosT} {a:ArenaT}
theorem zdI (A:ArOk c party p a):∀ (k i:Nat) (hi:i < a.positions.length),Attr (gm c a) k i↔AttrP c party k a.positions[i]
  | 0,i,hi=>by show (gm c a).lost i=true↔_;rw [A.lost hi];rfl
  | k+1,i,hi=>by
    obtain ⟨T,hT,hst,_⟩:=A.mv hi
    have hs:=A.succ hi hT
    have go:∀ m∈T,(Attr (gm c a) k m.to.toNat↔AttrP c party k (target c a.positions[i] m.step)):=fun m hm=>by
      obtain ⟨_,_,t3,t4⟩:=A.tgt hi hT hm
      rw [zdI A k _ t3,t4]
    have hall:(∀ t∈(gm c a).succ i,Attr (gm c a) k t)↔∀ m∈zA c party a.positions[i],AttrP c party k (target c a.positions[i] m):=by
      rw [hs,←hst]
      constructor
      · intro h x hx
        obtain ⟨m,hm,rfl⟩:=List.mem_map.1 hx
        exact (go m hm).1 (h _ (List.mem_map.2 ⟨m,hm,rfl⟩))
      · intro h x hx
        obtain ⟨m,hm,rfl⟩:=List.mem_map.1 hx
        exact (go m hm).2 (h _ (List.mem_map.2 ⟨m,hm,rfl⟩))
    have hex:(∃ t∈(gm c a).succ i,Attr (gm c a) k t)↔∃ m∈zA c party a.positions[i],AttrP c party k (target c a.positions[i] m):=by
      rw [hs,←hst]
      constructor
      · rintro ⟨x,hx,h⟩
        obtain ⟨m,hm,rfl⟩:=List.mem_map.1 hx
        exact ⟨_,List.mem_map.2 ⟨m,hm,rfl⟩,(go m hm).1 h⟩
      · rintro ⟨x,hx,h⟩
        obtain ⟨m,hm,rfl⟩:=List.mem_map.1 hx
        exact ⟨_,List.mem_map.2 ⟨m,hm,rfl⟩,(go m hm).2 h⟩
    show ((gm c a).lost i=true∨((gm c a).own i=true∧∀ t∈(gm c a).succ i,Attr (gm c a) k t)∨((gm c a).own i=false∧∃ t∈(gm c a).succ i,Attr (gm c a) k t))↔_
    rw [A.lost hi,A.own hi,hall,hex]
    rfl
def RankP (c:ContractT) (party:Int) (q:PosT) (x:Int):Prop := -1≤x∧∀ k:Nat,(x ≠ -1∧x≤k)↔AttrP c party k q
theorem zdJ (A:ArOk c party p a) {r:Nat→Int} (hr:Qd (gm c a) r) {i:Nat} (hi:i < a.positions.length):RankP c party a.positions[i] (r i):=
  ⟨(hr i hi).1,fun k=>((hr i hi).2 k).trans (zdI A k i hi)⟩
theorem RankP.uniq {q:PosT} {x y:Int} (h1:RankP c party q x) (h2:RankP c party q y):x=y:=by
  by_cases e:x = -1
  · by_cases e2:y = -1
    · rw [e,e2]
    · have:=(h1.2 y.toNat).2 ((h2.2 y.toNat).1 ⟨e2,by have:=h2.1;omega⟩)
      exact absurd e this.1
  · by_cases e2:y = -1
    · have:=(h2.2 x.toNat).2 ((h1.2 x.toNat).1 ⟨e,by have:=h1.1;omega⟩)
      exact absurd e2 this.1
    · have:=(h1.2 y.toNat).2 ((h2.2 y.toNat).1 ⟨e2,by have:=h2.1;omega⟩)
      have:=(h2.2 x.toNat).2 ((h1.2 x.toNat).1 ⟨e,by have:=h1.1;omega⟩)
      have:=h1.1;have:=h2.1
      omega
theorem RankP.safe {q:PosT} {x:Int} (h:RankP c party q x):x = -1↔zja c party q:=by
  constructor
  · intro e k hk
    exact ((h.2 k).2 hk).1 e
  · intro hs
    have:=h.1
    by_cases e:x = -1
    · exact e
    · exact absurd ((h.2 x.toNat).1 ⟨e,by omega⟩) (hs _)
end
theorem zeM {c:ContractT} {party:Int} {p:PosT} {L:List PosT} (hl:L.length≤1500) (h:∀ x,Rch c party p x→x∈L):¬ J0 c party p:=by
  rintro ⟨L1,h1,h2,q,h3,h4⟩
  have h5:(q::L1).Nodup:=List.nodup_cons.2 ⟨h4,h1.nd⟩
  have:=xU (L2:=L) h5 (fun x hx=>by
    rcases List.mem_cons.1 hx with e | hx
    · rw [e];exact h q h3
    · exact h x (h1.rch x hx))
  rw [List.length_cons] at this
  omega
end
section
def mu (P x:Int):Int:=bif x == P then 0 else bif x == -1 then -1 else 1
theorem zfj (P x:Int) : -1≤mu P x:=by unfold mu;cases (x == P)<;>cases (x == -1)<;>simp
theorem Wf (P x:Int):mu P x < 2:=by unfold mu;cases (x == P)<;>cases (x == -1)<;>simp
theorem QF {P:Int} (h:0≤P):mu P (-1) = -1:=by
  unfold mu
  rw [beq_eq_false_iff_ne.2 (show (-1:Int)≠P by omega)];rfl
theorem Kv {P x:Int} (h:0≤x):0≤mu P x:=by
  unfold mu
  rw [beq_eq_false_iff_ne.2 (show x ≠ -1 by omega)]
  cases (x == P)<;>simp
theorem WS {P x:Int}:mu P x=0↔x=P:=by
  unfold mu
  cases h:(x == P) with
  | true=>simp [beq_iff_eq.1 h]
  | false=>
    have:=beq_eq_false_iff_ne.1 h
    cases (x == -1)<;>simp [this]
theorem zhC (P x:Int):(mu P x == 0)=(x == P):=by
  rw [Bool.eq_iff_iff,beq_iff_eq,beq_iff_eq];exact WS
theorem zf5 {P x:Int} (h:0≤x):(bif x == P then (0:Int) else 1)=mu P x:=by
  unfold mu
  rw [beq_eq_false_iff_ne.2 (show x ≠ -1 by omega)];rfl
abbrev mgC (P:Int) (c:ContractT):ContractT:={c with parties:=2,holders:=c.holders.map (mu P)}
abbrev mgM (P:Int) (m:MarkT):MarkT:={m with bearer:=mu P m.bearer}
abbrev mgS (P:Int) (s:StateT):StateT:={s with holders:=s.holders.map (mu P),marks:=s.marks.map (mgM P)}
abbrev mgP (P:Int) (q:PosT):PosT:={state:=mgS P q.state,own:=q.own}
structure Oth (c:ContractT) (P:Int):Prop where
  ok:c.Ok
  cv:(zN c).1=0
  p0:0≤P
  p1:P < c.parties
  kind:∀ a∈c.acts,a.kind=1
  same:∀ (k:ClauseT) (j:Nat) (a:ActT),k∈c.clauses→k.kind≠4→k.act=(j:Int)→c.acts[j]?=some a→jr c.holders k=qS c.holders a
section
variable {c:ContractT} {P:Int}
theorem zeN (O:Oth c P):zN (mgC P c)=(0,-1):=by
  obtain ⟨h1,h2,h3,_⟩:=xm O.cv
  have hh:=Q8 O.cv
  refine zdt ?_ ?_ fun j hj => ?_
  · unfold wY at h1 ⊢
    simp only [List.length_map,Bool.or_eq_false_iff,decide_eq_false_iff_not] at h1 ⊢
    exact ⟨by omega,h1.2⟩
  · unfold qL at h2 ⊢
    simp only [List.length_map,Bool.and_eq_true] at h2 ⊢
    obtain ⟨a1,a2,a3,a4,a5,a6,a7⟩:=h2
    refine ⟨rfl,a2,a3,?_,a5,?_,a7⟩
    · simp only [wz,List.all_eq_true,Bool.and_eq_true,decide_eq_true_eq]
      intro x hx
      obtain ⟨y,hy,rfl⟩:=List.mem_map.1 hx
      exact ⟨Kv (hh y hy).1,Wf P y⟩
    · rw [List.all_eq_true] at a6 ⊢
      intro a ha
      have:=a6 a ha
      unfold JT at this ⊢
      rw [beq_iff_eq.2 (O.kind a ha)] at this ⊢
      exact this
  · have:=h3 j hj
    unfold clB at this ⊢
    simp only [List.length_map]
    exact this
theorem zbT (O:Oth c P):(zN (mgC P c)).1=0:=by rw [zeN O]
theorem Yi (hc:c.Ok):(mgC P c).Ok:={hc with
  parties:=show InK .i64 2 from by unfold InK;decide
  holders:=⟨by rw [List.length_map];exact hc.holders.1,fun x hx=>by
    obtain ⟨y,hy,rfl⟩:=List.mem_map.1 hx
    have h1:=zfj P y
    have h2:=Wf P y
    unfold InK
    have e1:IntKind.i64.min = -9223372036854775808:=by decide
    have e2:IntKind.i64.max=9223372036854775807:=by decide
    rw [e1,e2]
    omega⟩}
theorem Yj (b:Bool) (x y:MarkT):mgM P (bif b then x else y)=bif b then mgM P x else mgM P y:=by cases b<;>rfl
theorem zhD (h0:0≤P) {p:Int} {k:ClauseT} {m:MarkT} (h:qN p k m=true):qN 2 k (mgM P m)=true:=by
  have run:wZ p k m=true→wZ 2 k (mgM P m)=true:=fun h=>by
    obtain ⟨b1,b2,b3,b4,b5⟩:=qG.1 h
    refine qG.2 ⟨b1,b2,b3,b4,?_⟩
    rcases b5 with ⟨g1,g2⟩ | ⟨g1,g2,g3⟩
    · exact .inl ⟨g1,by show mu P m.bearer = -1;rw [g2,QF h0]⟩
    · exact .inr ⟨g1,Kv g2,Wf P _⟩
  refine ju.2 ?_
  rcases ju.1 h with ⟨a1,a2,a3⟩ | ⟨a1,a2,a3⟩ | ⟨a1,a2,a3,a4⟩ | ⟨a1,a2⟩
  · refine .inl ⟨a1,a2,?_⟩
    simp only [X6,Bool.and_eq_true,beq_iff_eq] at a3 ⊢
    obtain ⟨d1,d2,d3,d4,d5⟩:=a3
    exact ⟨d1,d2,d3,by rw [d4,QF h0],d5⟩
  · exact .inr (.inl ⟨a1,a2,run a3⟩)
  · exact .inr (.inr (.inl ⟨a1,a2,a3,run a4⟩))
  · refine .inr (.inr (.inr ⟨a1,?_⟩))
    simp only [Kk,Bool.and_eq_true,beq_iff_eq,decide_eq_true_eq] at a2 ⊢
    obtain ⟨d1,d2,d3,d4,d5,d6⟩:=a2
    exact ⟨d1,d2,d3,zfj P _,Wf P _,d6⟩
theorem zeO {α β:Type} (f:α→β) (l:List α) (n:Int):ze (l.map f) n=(ze l n).map f:=by
  unfold ze
  split
  · exact List.getElem?_map
  · rfl
theorem zaL (ms:List MarkT):jl (ms.map (mgM P))=jl ms:=by
  funext x
  unfold jl
  rw [zeO]
  cases ze ms x.clause<;>rfl
theorem zeP (ks:List ClauseT) (ms:List MarkT) (i:Nat):qY ks (ms.map (mgM P)) i=qY ks ms i:=by
  unfold qY
  rw [zaL,List.getElem?_map]
  cases ks[i]? with
  | none=>rfl
  | some k=>cases ms[i]?<;>rfl
theorem Je (ks:List ClauseT) (ms:List MarkT):∀ (n i:Nat),yN ks (ms.map (mgM P)) n i↔yN ks ms n i
  | 0,i=>Iff.rfl
  | n+1,i=>by
    simp only [yN,List.getElem?_map,Option.map_eq_some_iff,zaL]
    constructor
    · rintro ⟨k,_,e1,⟨m,e2,rfl⟩,e3,e4,e5⟩
      exact ⟨k,m,e1,e2,e3,e4,fun x hx=>(e5 x hx).imp id fun g=>⟨g.1,(Je ks ms n _).1 g.2⟩⟩
    · rintro ⟨k,m,e1,e2,e3,e4,e5⟩
      exact ⟨k,_,e1,⟨m,e2,rfl⟩,e3,e4,fun x hx=>(e5 x hx).imp id fun g=>⟨g.1,(Je ks ms n _).2 g.2⟩⟩
theorem zhE (ks:List ClauseT) (ms:List MarkT) (i:Nat):Sta ks (ms.map (mgM P)) i↔Sta ks ms i:=
  ⟨fun ⟨n,hn⟩=>⟨n,(Je ks ms n i).1 hn⟩,fun ⟨n,hn⟩=>⟨n,(Je ks ms n i).2 hn⟩⟩
theorem zf6 (O:Oth c P) {i:Nat} {k:ClauseT} (hk:c.clauses[i]?=some k) {hs:List Int} (hl:hs.length=c.holders.length):jr (hs.map (mu P)) k=mu P (jr hs k):=by
  have kv:=xw (O.ok.off.lt (by omega)) O.cv hk
  unfold jr
  cases h4:(k.kind == 4) with
  | true=>exact (QF O.p0).symm
  | false=>
    have hr:=kv.role.resolve_left (beq_eq_false_iff_ne.1 h4)
    simp only [cond_false]
    rw [List.getElem?_map,List.getElem?_eq_getElem (show k.role.toNat < hs.length by omega)]
    rfl
theorem zaM (O:Oth c P) {i:Nat} {a:ActT} (ha:c.acts[i]?=some a) {hs:List Int} (hl:hs.length=c.holders.length):qS (hs.map (mu P)) a=mu P (qS hs a):=by
  have av:=X7 O.cv ha
  unfold qS
  cases h4:(a.role == -1) with
  | true=>exact (QF O.p0).symm
  | false=>
    have h5:=beq_eq_false_iff_ne.1 h4
    have:=av.role
    simp only [cond_false]
    rw [List.getElem?_map,List.getElem?_eq_getElem (show a.role.toNat < hs.length by omega)]
    rfl
theorem J1 (O:Oth c P) {hs:List Int} {ms r r':List MarkT} (hh:hs.length=c.holders.length) (hl:ms.length=c.clauses.length) (S:StartP c hs ms r) (S':StartP (mgC P c) (hs.map (mu P)) (ms.map (mgM P)) r'):r'=r.map (mgM P):=by
  have l1:r.length=c.clauses.length:=S.ok.1
  have l2:r'.length=c.clauses.length:=S'.ok.1
  refine List.ext_getElem? fun i => ?_
  rw [List.getElem?_map]
  by_cases hi:i < c.clauses.length
  · have hk:=List.getElem?_eq_getElem hi
    have hm:=List.getElem?_eq_getElem (show i < ms.length by omega)
    have hm':(ms.map (mgM P))[i]?=some (mgM P ms[i]):=by rw [List.getElem?_map,hm];rfl
    have e:=zhE (P:=P) c.clauses ms i
    rcases S.sta i _ _ hk hm with ⟨a1,a2⟩ | ⟨a1,a2⟩<;>rcases S'.sta i _ _ hk hm' with ⟨b1,b2⟩ | ⟨b1,b2⟩
    · rw [a2,b2];rfl
    · exact absurd (e.1 b1) a1
    · exact absurd (e.2 a1) b1
    · rw [a2,b2,zf6 O hk hh];rfl
  · rw [List.getElem?_eq_none (by omega),List.getElem?_eq_none (by omega)];rfl
theorem QG (F F':ClauseT→MarkT→MarkT) (ms:List MarkT) (h:∀ (i:Nat) (k:ClauseT) (m:MarkT),c.clauses[i]?=some k→ms[i]?=some m→F' k (mgM P m)=mgM P (F k m)):(ms.map (mgM P)).mapIdx (atK (mgC P c) F')=(ms.mapIdx (atK c F)).map (mgM P):=by
  refine List.ext_getElem? fun i => ?_
  rw [List.getElem?_mapIdx,List.getElem?_map,List.getElem?_map,List.getElem?_mapIdx]
  cases hm:ms[i]? with
  | none=>rfl
  | some m=>
    simp only [Option.map_some,atK]
    cases hk:c.clauses[i]? with
    | none=>rfl
    | some k=>simp only [h i k m hk hm]
theorem zf7 (free:Bool) (k:ClauseT) (m:MarkT):jm free k (mgM P m)=mgM P (jm free k m):=by
  unfold jm;simp only [Yj];rfl
theorem zeQ (act:Int) (k:ClauseT) (m:MarkT):jF act k (mgM P m)=mgM P (jF act k m):=by
  unfold jF;simp only [Yj];rfl
theorem zhF (k:ClauseT) (m:MarkT):JV k (mgM P m)=mgM P (JV k m):=by
  unfold JV X9;simp only [Yj];rfl
theorem zhG {act b:Int} {k:ClauseT} {m:MarkT} (h:qv m=true→k.act=act→k.kind≠4→m.bearer=b):ve act (mu P b) k (mgM P m)=mgM P (ve act b k m):=by
  have e:qv m=true→(k.act == act&&(k.kind == 4||(mgM P m).bearer == mu P b))=(k.act == act&&(k.kind == 4||m.bearer == b)):=fun hr=>by
    cases h1:(k.act == act) with
    | false=>rfl
    | true=>
      cases h4:(k.kind == 4) with
      | true=>rfl
      | false=>
        have:=h hr (beq_iff_eq.1 h1) (beq_eq_false_iff_ne.1 h4)
        show (true&&(false||mu P m.bearer == mu P b))=(true&&(false||m.bearer == b))
        rw [this,beq_self_eq_true,beq_self_eq_true]
  unfold ve
  rw [show qv (mgM P m)=qv m from rfl]
  cases hr:qv m with
  | false=>rfl
  | true=>
    rw [e hr,zhF]
    simp only [cond_true,Yj]
def j8 (c:ContractT) (k:ClauseT) (m:MarkT):Prop:=m.bearer=bif k.waived||m.status == 0 then -1 else jr c.holders k
def QH (c:ContractT) (ms:List MarkT):Prop:=∀ (i:Nat) (k:ClauseT) (m:MarkT),c.clauses[i]?=some k→ms[i]?=some m→j8 c k m
structure BerS (c:ContractT) (s:StateT):Prop where
  h:s.holders=c.holders
  m:QH c s.marks
def Qm (m x:MarkT):Prop:=x.bearer=m.bearer∧(x.status == 0)=false
theorem xV {m x y:MarkT} {b:Bool} (hx:Qm m x) (hy:Qm m y):Qm m (bif b then x else y):=by cases b<;>assumption
theorem jZ {m:MarkT} (h:qv m=true):(m.status == 0)=false:=by
  simp only [qv,Bool.or_eq_true,beq_iff_eq] at h
  exact beq_eq_false_iff_ne.2 (by omega)
theorem zjb {k:ClauseT} {m x:MarkT} (h:j8 c k m) (hr:qv m=true) (q:Qm m x):j8 c k x:=by
  unfold j8 at h ⊢
  rw [q.1,q.2,h,jZ hr]
theorem WT {k:ClauseT} {m x:MarkT} (h:j8 c k m) (hq:qv m=true→Qm m x) (he:qv m=false→x=m):j8 c k x:=by
  cases hr:qv m with
  | true=>exact zjb h hr (hq hr)
  | false=>rw [he hr];exact h
theorem zeR {k:ClauseT} {m:MarkT} (free:Bool) (h:j8 c k m):j8 c k (jm free k m):=by
  refine WT h (fun hr => ?_) (fun hr=>by unfold jm;rw [hr];rfl)
  have s:Qm m m:=⟨rfl,jZ hr⟩
  unfold jm
  rw [hr]
  exact xV (xV s (xV (xV (xV ⟨rfl,rfl⟩ ⟨rfl,rfl⟩) (xV ⟨rfl,rfl⟩ ⟨rfl,rfl⟩)) ⟨rfl,jZ hr⟩)) s
theorem zdK {k:ClauseT} {m:MarkT} (act:Int) (h:j8 c k m):j8 c k (jF act k m):=by
  refine WT h (fun hr => ?_) (fun hr=>by unfold jF;rw [hr];rfl)
  unfold jF
  rw [hr]
  exact xV (xV ⟨rfl,jZ hr⟩ (xV ⟨rfl,jZ hr⟩ ⟨rfl,jZ hr⟩)) ⟨rfl,jZ hr⟩
theorem zf8 {k:ClauseT} {m:MarkT} (act b:Int) (h:j8 c k m):j8 c k (ve act b k m):=by
  refine WT h (fun hr => ?_) (fun hr=>by unfold ve;rw [hr];rfl)
  unfold ve JV X9
  rw [hr]
  have s:Qm m m:=⟨rfl,jZ hr⟩
  exact xV (xV (xV (xV ⟨rfl,rfl⟩ ⟨rfl,jZ hr⟩) (xV (xV s ⟨rfl,rfl⟩) ⟨rfl,rfl⟩)) s) s
theorem ZF {F:ClauseT→MarkT→MarkT} {ms:List MarkT} (h:QH c ms) (hF:∀ k m,j8 c k m→j8 c k (F k m)):QH c (ms.mapIdx (atK c F)):=by
  intro i k m hk hm
  rw [List.getElem?_mapIdx] at hm
  obtain ⟨m0,h0,rfl⟩:=Option.map_eq_some_iff.1 hm
  simp only [atK,hk]
  exact hF k m0 (h i k m0 hk h0)
theorem QJ {ms r:List MarkT} (hl:ms.length=c.clauses.length) (h:QH c ms) (S:StartP c c.holders ms r):QH c r:=by
  intro i k m hk hm
  have hi:=(List.getElem?_eq_some_iff.1 hk).1
  have hms:=List.getElem?_eq_getElem (show i < ms.length by omega)
  rcases S.sta i k _ hk hms with ⟨_,a⟩ | ⟨⟨n,hn⟩,a⟩
  · rw [a] at hm
    cases hm
    exact h i k _ hk hms
  · rw [a] at hm
    cases hm
    cases n with
    | zero=>exact hn.elim
    | succ n=>
      obtain ⟨k',m',e1,_,_,e4,_⟩:=hn
      rw [hk] at e1
      cases e1
      unfold j8 xd
      rw [e4];rfl
theorem zjc (O:Oth c P) {s:StateT} (hv:VS c s):VS (mgC P c) (mgS P s):=by
  refine ⟨zbT O,hv.day,by rw [List.length_map,List.length_map];exact hv.lh,hv.lu,by rw [List.length_map];exact hv.lm,fun x hx => ?_,hv.used,fun i k m hk hm => ?_,fun i hi => ?_⟩
  · obtain ⟨y,hy,rfl⟩:=List.mem_map.1 hx
    exact ⟨Kv (hv.hold y hy).1,Wf P y⟩
  · have hm:(s.marks.map (mgM P))[i]?=some m:=hm
    rw [List.getElem?_map] at hm
    obtain ⟨m0,h0,rfl⟩:=Option.map_eq_some_iff.1 hm
    exact zhD O.p0 (hv.mrk i k m0 hk h0)
  · show qY c.clauses (s.marks.map (mgM P)) i=false
    rw [zeP]
    exact hv.rdy i hi
theorem zdL {s t:StateT} (hs:BerS c s) (ht:BerS c t) (ls:s.marks.length=c.clauses.length) (h:mgS P s=mgS P t):s=t:=by
  have e1:s.day=t.day:=(congrArg StateT.day h:(mgS P s).day=(mgS P t).day)
  have e3:s.used=t.used:=(congrArg StateT.used h:(mgS P s).used=(mgS P t).used)
  have e4:s.marks.map (mgM P)=t.marks.map (mgM P):=congrArg StateT.marks h
  have hl:s.marks.length=t.marks.length:=by
    have:=congrArg List.length e4
    rwa [List.length_map,List.length_map] at this
  have e5:s.marks=t.marks:=by
    refine List.ext_getElem? fun i => ?_
    by_cases hi:i < s.marks.length
    · have h1:=List.getElem?_eq_getElem hi
      have h2:=List.getElem?_eq_getElem (show i < t.marks.length by omega)
      have hk:=List.getElem?_eq_getElem (show i < c.clauses.length by omega)
      have g:(s.marks.map (mgM P))[i]?=(t.marks.map (mgM P))[i]?:=by rw [e4]
      rw [List.getElem?_map,List.getElem?_map,h1,h2] at g
      have g:=Option.some.inj g
      have b1:=hs.m i _ _ hk h1
      have b2:=ht.m i _ _ hk h2
      rw [h1,h2]
      generalize s.marks[i]=x at *
      generalize t.marks[i]=y at *
      have g1:x.status=y.status:=(congrArg MarkT.status g:(mgM P x).status=(mgM P y).status)
      have g2:x.left=y.left:=(congrArg MarkT.left g:(mgM P x).left=(mgM P y).left)
      have g3:x.got=y.got:=(congrArg MarkT.got g:(mgM P x).got=(mgM P y).got)
      have g4:x.paused=y.paused:=(congrArg MarkT.paused g:(mgM P x).paused=(mgM P y).paused)
      have g5:x.bearer=y.bearer:=by
        unfold j8 at b1 b2
        rw [b1,b2,g1]
      congr 1
      cases x;cases y
      simp only at g1 g2 g3 g4 g5
      subst g1 g2 g3 g4 g5;rfl
    · rw [List.getElem?_eq_none (by omega),List.getElem?_eq_none (by omega)]
  have e2:s.holders=t.holders:=hs.h.trans ht.h.symm
  cases s;cases t
  simp only at e1 e2 e3 e5
  subst e1 e2 e3 e5;rfl
theorem zf9 {s t:StateT} (hs:BerS c s) (ht:BerS c t) (ls:s.marks.length=c.clauses.length):wC (mgS P s) (mgS P t)=wC s t:=by
  rw [Bool.eq_iff_iff,kp,kp]
  exact ⟨zdL hs ht ls,fun h=>by rw [h]⟩
theorem WU {a b:StateT} (h1:a.day=b.day) (h2:a.holders=b.holders) (h3:a.used=b.used) (h4:a.marks=b.marks):a=b:=by
  cases a;cases b;simp only at h1 h2 h3 h4;subst h1 h2 h3 h4;rfl
theorem zaN (O:Oth c P) {s:StateT} (hv:VS c s) (hb:BerS c s) {a:Int} (h1 : -1≤a) (h2:a < c.acts.length) (hd:s.day < c.days):jn (mgC P c) (mgS P s) a=mgS P (jn c s a)∧BerS c (jn c s a):=by
  have ho:=O.ok.off.lt (by omega:0 < 8)
  have hvd:=zjc O hv
  obtain ⟨_,_,t1,a1⟩:=vg O.ok hv h1 h2 hd
  obtain ⟨_,_,t2,a2⟩:=vg (Yi O.ok) hvd h1 h2 hd
  rcases Int.lt_or_le a 0 with hneg | hpos
  · obtain ⟨x1,x2,x3,x4⟩:=t1 (by omega)
    obtain ⟨y1,y2,y3,y4⟩:=t2 (by omega)
    have hl:(s.marks.mapIdx (atK c (jm (jE c.off s.day).isSome))).length=c.clauses.length:=by rw [List.length_mapIdx];exact hv.lm
    have y4:StartP (mgC P c) (s.holders.map (mu P)) ((s.marks.map (mgM P)).mapIdx (atK (mgC P c) (jm (jE c.off s.day).isSome))) (jn (mgC P c) (mgS P s) a).marks:=y4
    rw [QG (jm (jE c.off s.day).isSome) _ s.marks fun i k m _ _=>zf7 _ k m] at y4
    refine ⟨WU (y1.trans (by show s.day+1=_;rw [x1])) (y2.trans (by show s.holders.map (mu P)=_;rw [←x2])) (y3.trans x3.symm) (J1 O hv.lh hl x4 y4),x2.trans hb.h,?_⟩
    rw [hb.h] at x4
    exact QJ hl (ZF hb.m fun k m=>zeR _) x4
  · have ha:c.acts[a.toNat]?=some c.acts[a.toNat]:=List.getElem?_eq_getElem (by omega)
    have hk1:=O.kind _ (List.mem_of_getElem? ha)
    have e1:(c.acts[a.toNat].kind == 1)=true:=beq_iff_eq.2 hk1
    have e3:(c.acts[a.toNat].kind == 3)=false:=beq_eq_false_iff_ne.2 (by omega)
    rcases a1 a.toNat _ (by omega) ha with ⟨x1,_⟩ | ⟨_,x2,x3,x4,x5⟩
    · exact absurd hk1 x1
    rcases a2 a.toNat _ (by omega) ha with ⟨y1,_⟩ | ⟨_,y2,y3,y4,y5⟩
    · exact absurd hk1 y1
    generalize hx:c.acts[a.toNat]=x at *
    have q1:hs3 x s.holders=s.holders:=by unfold hs3;rw [e1];rfl
    have q2:hs3 x (s.holders.map (mu P))=s.holders.map (mu P):=by unfold hs3;rw [e1];rfl
    have q3:ms3 c a.toNat x s.holders s.marks=ms2 c a.toNat x s.holders s.marks:=by unfold ms3;rw [e3];rfl
    have q4:ms3 (mgC P c) a.toNat x (s.holders.map (mu P)) (s.marks.map (mgM P))=ms2 (mgC P c) a.toNat x (s.holders.map (mu P)) (s.marks.map (mgM P)):=by unfold ms3;rw [e3];rfl
    have y3:(jn (mgC P c) (mgS P s) a).holders=hs3 x (s.holders.map (mu P)):=y3
    have y5:StartP (mgC P c) (hs3 x (s.holders.map (mu P))) (ms3 (mgC P c) a.toNat x (s.holders.map (mu P)) (s.marks.map (mgM P))) (jn (mgC P c) (mgS P s) a).marks:=y5
    rw [q1] at x3
    rw [q2] at y3
    rw [q1,q3] at x5
    rw [q2,q4] at y5
    have b1:QH c (ms1 c a.toNat s.marks):=ZF hb.m fun k m=>zdK _
    have b2:QH c (ms2 c a.toNat x s.holders s.marks):=ZF b1 fun k m=>zf8 _ _
    have l1:(ms1 c a.toNat s.marks).length=c.clauses.length:=by unfold ms1;rw [List.length_mapIdx];exact hv.lm
    have l2:(ms2 c a.toNat x s.holders s.marks).length=c.clauses.length:=by unfold ms2;rw [List.length_mapIdx];exact l1
    have e5:ms1 (mgC P c) a.toNat (s.marks.map (mgM P))=(ms1 c a.toNat s.marks).map (mgM P):=QG (jF a.toNat) _ s.marks fun i k m _ _=>zeQ _ k m
    have e6:ms2 (mgC P c) a.toNat x (s.holders.map (mu P)) (s.marks.map (mgM P))=(ms2 c a.toNat x s.holders s.marks).map (mgM P):=by
      unfold ms2
      rw [e5,zaM O ha hv.lh]
      refine QG (ve a.toNat (qS s.holders x)) _ _ fun i k m hk hm=>zhG fun hr hact h4 => ?_
      have hbm:=b1 i k m hk hm
      unfold j8 at hbm
      have hm1:=(Kn (act:=(a.toNat:Int)) ho O.cv (by omega) ⟨hv.lm,hv.mrk⟩).2 i k m hk hm
      obtain ⟨rv,_,_⟩:=xx (xw ho O.cv hk) hm1 hr
      rw [hbm,rv.waived,jZ hr,hb.h]
      exact O.same k a.toNat x (List.mem_of_getElem? hk) h4 hact ha
    rw [e6] at y5
    refine ⟨WU (y2.trans x2.symm) (y3.trans (by show _=(jn c s a).holders.map (mu P);rw [x3])) (y4.trans x4.symm) (J1 O hv.lh l2 x5 y5),x3.trans hb.h,?_⟩
    rw [hb.h] at x5
    rw [hb.h] at b2
    rw [hb.h] at l2
    exact QJ l2 b2 x5
theorem zjd (O:Oth c P) {q:PosT} (hv:VS c q.state) (hb:BerS c q.state) (hd:q.state.day < c.days) {i:Nat} (hi:i < c.acts.length):mvB (mgC P c) 0 (mgP P q) i=mvB c P q i:=by
  obtain ⟨g1,g2⟩:=zaN O hv hb (a:=(i:Int)) (by omega) (by omega) hd
  obtain ⟨_,hv2,_,_⟩:=vg O.ok hv (a:=(i:Int)) (by omega) (by omega) hd
  have ha:=List.getElem?_eq_getElem hi
  unfold mvB
  rw [ha]
  simp only
  rw [g1,zf9 g2 hb hv2.lm,zaM O ha hv.lh,zhC]
theorem J2 (O:Oth c P) {q:PosT} (hv:VS c q.state) (hb:BerS c q.state):zA (mgC P c) 0 (mgP P q)=zA c P q:=by
  unfold zA
  by_cases hd:c.days≤q.state.day
  · simp only [decide_eq_true hd,cond_true]
  · simp only [decide_eq_false hd,cond_false]
    congr 2
    unfold q6
    congr 1
    exact List.filter_congr fun i hi=>zjd O hv hb (by omega) (List.mem_range.1 hi)
theorem ku (O:Oth c P) {q:PosT} (hv:VS c q.state) (hb:BerS c q.state) {m:Int} (hm:m∈zA c P q):target (mgC P c) (mgP P q) m=mgP P (target c q m)∧BerS c (target c q m).state:=by
  rcases zbS hm with ⟨rfl,_⟩ | ⟨h1,h2,h3⟩
  · rw [Jx,Jx];exact ⟨rfl,hb⟩
  · obtain ⟨g1,g2⟩:=zaN O hv hb h1 h2 h3
    rw [Jy _ _ h1,Jy _ _ h1]
    exact ⟨by rw [g1],g2⟩
theorem zaO {s:StateT}:jz (mgC P c) (mgS P s) 0=true↔jz c s P=true:=by
  rw [VL,VL]
  constructor
  · rintro ⟨i,k,m,hk,hm,g1,g2,g3⟩
    have hm:(s.marks.map (mgM P))[i]?=some m:=hm
    rw [List.getElem?_map] at hm
    obtain ⟨m0,h0,rfl⟩:=Option.map_eq_some_iff.1 hm
    exact ⟨i,k,m0,hk,h0,g1,g2,WS.1 g3⟩
  · rintro ⟨i,k,m,hk,hm,g1,g2,g3⟩
    exact ⟨i,k,mgM P m,hk,by show (s.marks.map (mgM P))[i]?=_;rw [List.getElem?_map,hm];rfl,g1,g2,WS.2 g3⟩
theorem zaP (O:Oth c P):∀ (n:Nat) (q:PosT),VS c q.state→BerS c q.state→(AttrP (mgC P c) 0 n (mgP P q)↔AttrP c P n q)
  | 0,q,hv,hb=>zaO
  | n+1,q,hv,hb=>by
    have ih:∀ m∈zA c P q,(AttrP (mgC P c) 0 n (target (mgC P c) (mgP P q) m)↔AttrP c P n (target c q m)):=fun m hm=>by
      obtain ⟨g1,g2⟩:=ku O hv hb hm
      rw [g1]
      exact zaP O n _ (vY O.ok hv hm) g2
    show (_∨(q.own=true∧_)∨(q.own=false∧_))↔(_∨(q.own=true∧_)∨(q.own=false∧_))
    rw [J2 O hv hb]
    refine or_congr zaO (or_congr (and_congr Iff.rfl ⟨fun h m hm=>(ih m hm).1 (h m hm),fun h m hm=>(ih m hm).2 (h m hm)⟩) (and_congr Iff.rfl ⟨?_,?_⟩))
    · rintro ⟨m,hm,h⟩;exact ⟨m,hm,(ih m hm).1 h⟩
    · rintro ⟨m,hm,h⟩;exact ⟨m,hm,(ih m hm).2 h⟩
theorem zga (O:Oth c P) {q:PosT} (hv:VS c q.state) (hb:BerS c q.state) {x:Int} (h:RankP (mgC P c) 0 (mgP P q) x):RankP c P q x:=
  ⟨h.1,fun k=>(h.2 k).trans (zaP O k q hv hb)⟩
theorem Jf (O:Oth c P) {p:PosT} (hv:VS c p.state) (hb:BerS c p.state) {q:PosT} (h:Rch c P p q):VS c q.state∧BerS c q.state:=by
  induction h with
  | base=>exact ⟨hv,hb⟩
  | step _ hm ih=>exact ⟨vY O.ok ih.1 hm,(ku O ih.1 ih.2 hm).2⟩
theorem zhH (O:Oth c P) {p:PosT} (hv:VS c p.state) (hb:BerS c p.state) {q:PosT} (h:Rch c P p q):Rch (mgC P c) 0 (mgP P p) (mgP P q):=by
  induction h with
  | base=>exact .base
  | step h hm ih=>
    obtain ⟨g1,g2⟩:=Jf O hv hb h
    rw [←(ku O g1 g2 hm).1]
    exact ih.step (by rw [J2 O g1 g2];exact hm)
theorem Kw (O:Oth c P) {p:PosT} (hv:VS c p.state) (hb:BerS c p.state) {x:PosT} (h:Rch (mgC P c) 0 (mgP P p) x):∃ q,Rch c P p q∧x=mgP P q:=by
  induction h with
  | base=>exact ⟨p,.base,rfl⟩
  | step h hm ih=>
    obtain ⟨q,hq,rfl⟩:=ih
    obtain ⟨g1,g2⟩:=Jf O hv hb hq
    rw [J2 O g1 g2] at hm
    exact ⟨_,hq.step hm,(ku O g1 g2 hm).1⟩
theorem zgb {q r:PosT} (hq:BerS c q.state) (hr:BerS c r.state) (l:q.state.marks.length=c.clauses.length) (h:mgP P q=mgP P r):q=r:=by
  have h1:mgS P q.state=mgS P r.state:=congrArg PosT.state h
  have h2:q.own=r.own:=(congrArg PosT.own h:(mgP P q).own=(mgP P r).own)
  have h3:=zdL hq hr l h1
  cases q;cases r
  simp only at h2 h3
  subst h2 h3;rfl
theorem zdM (O:Oth c P) {p:PosT} (hv:VS c p.state) (hb:BerS c p.state) {L:List PosT} (I:PInv c P p L):(L.map (mgP P)).Nodup:=by
  unfold List.Nodup
  rw [List.pairwise_map]
  refine List.Pairwise.imp_of_mem (fun {a b} ha hb' hne e=>hne ?_) I.nd
  obtain ⟨a1,a2⟩:=Jf O hv hb (I.rch a ha)
  obtain ⟨b1,b2⟩:=Jf O hv hb (I.rch b hb')
  exact zgb a2 b2 a1.lm e
theorem zgc (O:Oth c P) {p:PosT} {a b:ArenaT} (hv:VS c p.state) (hb:BerS c p.state) (A:ArOk c P p a) (B:ArOk (mgC P c) 0 (mgP P p) b):a.positions.length=b.positions.length:=by
  refine Nat.le_antisymm ?_ ?_
  · have:=xU (L2:=b.positions) (zdM O hv hb A.F.inv) fun x hx=>by
      obtain ⟨q,hq,rfl⟩:=List.mem_map.1 hx
      exact B.F.rch (List.mem_of_getElem? B.F.first) (zhH O hv hb (A.F.inv.rch q hq))
    rwa [List.length_map] at this
  · have:=xU (L2:=a.positions.map (mgP P)) B.F.inv.nd fun x hx=>by
      obtain ⟨q,hq,rfl⟩:=Kw O hv hb (B.F.inv.rch x hx)
      exact List.mem_map.2 ⟨q,A.F.rch (List.mem_of_getElem? A.F.first) hq,rfl⟩
    rwa [List.length_map] at this
theorem zhI (O:Oth c P) {p:PosT} {a:ArenaT} (hv:VS c p.state) (hb:BerS c p.state) (A:ArOk c P p a):¬ J0 (mgC P c) 0 (mgP P p):=by
  refine zeM (L:=a.positions.map (mgP P)) (by rw [List.length_map];exact A.F.inv.len) fun x hx => ?_
  obtain ⟨q,hq,rfl⟩:=Kw O hv hb hx
  exact List.mem_map.2 ⟨q,A.F.rch (List.mem_of_getElem? A.F.first) hq,rfl⟩
theorem J3 (c:ContractT) {i:Nat} {k:ClauseT} (hk:c.clauses[i]?=some k):(vZ c)[i]?=some (vH k kq):=by
  have hi:=(List.getElem?_eq_some_iff.1 hk).1
  unfold vZ
  rw [List.getElem?_mapIdx,List.getElem?_replicate,if_pos hi]
  simp only [Option.map_some,atK,hk]
theorem ZG (c:ContractT):(vZ c).length=c.clauses.length:=by simp [vZ]
theorem zgd (O:Oth c P):vZ (mgC P c)=(vZ c).map (mgM P):=by
  refine List.ext_getElem? fun i => ?_
  rw [List.getElem?_map]
  by_cases hi:i < c.clauses.length
  · have hk:=List.getElem?_eq_getElem hi
    rw [J3 (mgC P c) hk,J3 c hk]
    unfold vH
    cases c.clauses[i].waived<;>simp [mgM,QF O.p0]
  · rw [List.getElem?_eq_none (by rw [ZG];exact Nat.le_of_not_lt hi),List.getElem?_eq_none (by rw [ZG];omega)];rfl
theorem zeS (c:ContractT):QH c (vZ c):=by
  intro i k m hk hm
  rw [J3 c hk] at hm
  cases hm
  unfold j8 vH
  cases k.waived<;>rfl
theorem zdN (O:Oth c P) {s0 s1:StateT} (h0:qK c=some (s0,0)) (h1:qK (mgC P c)=some (s1,0)):s1=mgS P s0∧BerS c s0:=by
  obtain ⟨r,e1,_,_,d1,g1,u1,S1⟩:=ZE O.ok O.cv
  obtain ⟨r',e2,_,_,d2,g2,u2,S2⟩:=ZE (Yi O.ok) (zbT O)
  rw [h0] at e1
  rw [h1] at e2
  cases e1;cases e2
  simp only at d1 g1 u1 S1 d2 g2 u2 S2
  rw [zgd O] at S2
  exact ⟨WU (d2.trans d1.symm) (g2.trans (by show _=s0.holders.map (mu P);rw [g1])) (u2.trans u1.symm) (J1 O rfl (ZG c) S1 S2),g1,QJ (ZG c) (zeS c) S1⟩
end
end
end Go.Proofs.YtmoedieenlaegaaGreatDoor
