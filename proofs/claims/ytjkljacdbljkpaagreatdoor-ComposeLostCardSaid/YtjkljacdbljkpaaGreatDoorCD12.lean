/-
  What 'contract.Components' and 'contract.Linked' come to.
  'arena.After'; 'Few', 'Tame', 'Doer'.
  The text of a position tells it from every other position of the same contract.
  A search through positions, breadth first: what is known of it.
  'arena.From': what it returns.
  What an arena holds: closed under moves, and all that can be reached.
  region.Ranks: what it returns for an arena is the number of moves in which a breach can be forced.
  region.Ranks: the queue.
  region.Ranks: all of it.
  A clause that has ended stays as it is; a breach stays a breach.
  RegionBreach: a breach is never left.
  What can be forced from a position, told without an arena.
  region.Safe and strategy's functions, told by positions.
  Games of parts of a contract: a position is safe exactly if all parts are safe in it.
  'compose.Restrict', 'Lost' and 'Safe': what they return.
-/
import Derived.Test.YtjkljacdbljkpaaGreatDoorCD11
import Derived.Test.YtjkljacdbljkpaaGreatDoorCD10
import Derived.Test.YtjkljacdbljkpaaGreatDoorCD06
namespace Go.Proofs.YtjkljacdbljkpaaGreatDoor
open Go.RowKit
set_option linter.unusedSimpArgs false
set_option linter.unusedVariables false
set_option maxRecDepth 100000
def jE (k:ClauseT):List Int:=if k.pause = -1 then [k.act] else [k.act,k.pause,k.resume]
theorem zfh (k:ClauseT):yz k=some (jE k):=by
  unfold yz jE
  by_cases h:k.pause = -1
  · simp [h]
  · rw [if_neg h,beq_eq_false_iff_ne.2 h];rfl
theorem zfi (k:ClauseT):(jE k).length≤3:=by unfold jE;split<;>simp
def xL (l:List ActT):Bool:=l.any fun a=>!(a.kind == 1)
theorem zk9 (l:List ActT) (hl:l.length < 4611686018427387904):Xe l=some (xL l):=by
  unfold Xe Ky
  rw [xS (fun j=>match l[j]? with | some a=>a.kind == 1 | none=>true) (fun j=>(j:Int)) hl (fun j hj=>by
    simp only [zO,List.getElem?_eq_getElem hj,Option.bind_some,Kx]
    cases (l[j].kind == 1)<;>rfl)]
  cases hf:(List.range l.length).find? (fun j=>!(match l[j]? with | some a=>a.kind == 1 | none=>true)) with
  | none=>
    have:xL l=false:=by
      unfold xL
      rw [List.any_eq_false]
      intro a ha
      obtain ⟨j,hj,rfl⟩:=List.getElem_of_mem ha
      have:=yu hf j hj
      simp only [List.getElem?_eq_getElem hj] at this
      simp [this]
    rw [this];rfl
  | some k=>
    obtain ⟨h2,h1,_⟩:=yv hf
    have:xL l=true:=by
      unfold xL
      rw [List.any_eq_true]
      simp only [List.getElem?_eq_getElem h2] at h1
      exact ⟨l[k],List.getElem_mem h2,by rw [h1];rfl⟩
    rw [this]
    simp only [Option.bind_some,Sum.elim_inr]
    have:decide ((0:Int)≤(k:Int))=true:=decide_eq_true (by omega)
    first | rfl | (rw [this])
structure Mg (n:Nat) (a b:List Int):Prop where
  uf:UF n b
  eq:∀ x y,x < n→y < n→root a x=root a y→root b x=root b y
theorem Mg.refl {n:Nat} {a:List Int} (h:UF n a):Mg n a a:=⟨h,fun _ _ _ _ e=>e⟩
theorem Mg.trans {n:Nat} {a b c:List Int} (h:Mg n a b) (h':Mg n b c):Mg n a c:=⟨h'.uf,fun x y hx hy e=>h'.eq x y hx hy (h.eq x y hx hy e)⟩
structure EqR (E:Nat→Nat→Prop):Prop where
  refl:∀ x,E x x
  symm:∀ x y,E x y→E y x
  trans:∀ x y z,E x y→E y z→E x z
def UE (n:Nat) (E:Nat→Nat→Prop) (a:List Int):Prop:=∀ x y,x < n→y < n→root a x=root a y→E x y
theorem zbb {n i j:Nat} {above:List Int} (h:UF n above) (hi:i < n) (hj:j < n):Ret (wv (i:Int) (j:Int) above) fun b=>Mg n above b∧root b i=root b j∧∀ E,EqR E→E i j→UE n E above→UE n E b:=by
  obtain ⟨b,h1,h2,h3,h4,h5⟩:=zjM h hi hj
  refine ⟨b,h1,⟨h2,h4⟩,h3,fun E hE hij hU x y hx hy hxy => ?_⟩
  rcases h5 x y hx hy hxy with e | ⟨e1,e2⟩
  · exact hU x y hx hy e
  · have hx':E x i:=e1.elim (fun e=>hU x i hx hi e) (fun e=>hE.trans _ _ _ (hU x j hx hj e) (hE.symm _ _ hij))
    have hy':E y i:=e2.elim (fun e=>hU y i hy hi e) (fun e=>hE.trans _ _ _ (hU y j hy hj e) (hE.symm _ _ hij))
    exact hE.trans _ _ _ hx' (hE.symm _ _ hy')
structure Ties (c:ContractT) (E:Nat→Nat→Prop):Prop where
  eqr:EqR E
  start:∀ (i:Nat) (k:ClauseT),c.clauses[i]?=some k→∀ s∈k.start,E i s.clause.toNat
  nums:∀ (i j:Nat) (k q:ClauseT) (a:Int),c.clauses[i]?=some k→c.clauses[j]?=some q→a∈jE k→a∈jE q→E i j
  whole:xL c.acts=true→∀ i j,i < c.clauses.length→j < c.clauses.length→E i j
structure Users (c:ContractT) (n:Nat) (us:List (Int×Int)):Prop where
  rng:∀ a u,zp a us=some u→0≤u∧u < n
  use:∀ a u,zp a us=some u→∃ q,c.clauses[u.toNat]?=some q∧a∈jE q
structure Hangs (n:Nat) (k:ClauseT) (i:Nat) (ab:List Int) (us:List (Int×Int)):Prop where
  start:∀ s∈k.start,root ab i=root ab s.clause.toNat
  nums:∀ a∈jE k,∃ u:Nat,zp a us=some (u:Int)∧u < n∧root ab u=root ab i
structure CInv (c:ContractT) (m:Nat) (s:List Int×List (Int×Int)):Prop where
  uf:UF c.clauses.length s.1
  users:Users c c.clauses.length s.2
  whole:xL c.acts=true→∀ i,i < m→root s.1 0=root s.1 i
  least:∀ E,Ties c E→UE c.clauses.length E s.1
  hangs:∀ (i:Nat) (k:ClauseT),i < m→c.clauses[i]?=some k→Hangs c.clauses.length k i s.1 s.2
structure RootsOf (c:ContractT) (ρ:Nat→Nat):Prop where
  whole:xL c.acts=true→∀ i j,i < c.clauses.length→j < c.clauses.length→ρ i=ρ j
  least:∀ E,Ties c E→∀ i j,i < c.clauses.length→j < c.clauses.length→ρ i=ρ j→E i j
  fn:RootFn c.clauses.length ρ
  start:∀ (i:Nat) (k:ClauseT),c.clauses[i]?=some k→∀ s∈k.start,ρ i=ρ s.clause.toNat
  nums:∀ (i j:Nat) (k q:ClauseT) (a:Int),c.clauses[i]?=some k→c.clauses[j]?=some q→a∈jE k→a∈jE q→ρ i=ρ j
theorem zh5 {n:Nat} {s:List Int} (h:UF n s) (hs:∀ i,i < n→s.getD i 0=(i:Int)):∀ i,i < n→root s i=i:=fun i hi=>by
  rw [h.root_eq hi,if_pos]
  unfold up
  rw [hs i hi];simp
theorem zbc (c:ContractT) (ho:c.off.length < 4611686018427387904) (hst:∀ k∈c.clauses,k.start.length < 4611686018427387904) (hv:(zZ c).1=0) :
    ∃ ρ,RootsOf c ρ∧qy c=some (qc ρ c.clauses.length):=by
  have sm:=qu ho hv
  have h400:=sm.clauses
  have hacts:=sm.acts
  suffices hh:Ret (qy c) (fun l=>∃ ρ,RootsOf c ρ∧l=qc ρ c.clauses.length) by
    obtain ⟨l,h1,ρ,h2,rfl⟩:=hh
    exact ⟨ρ,h2,h1⟩
  unfold qy
  rw [VY c ho hst]
  simp only [Option.bind_some,hv,beq_self_eq_true,cond_true]
  refine Ret.bind (P:=fun o=>match o with | .inl s=>UF c.clauses.length s∧∀ i,i < c.clauses.length→root s i=i | .inr _=>False) ?_ ?_
  · refine Ret.forL (fun m s=>s.length=400∧∀ i,i < m→s.getD i 0=(i:Int)) (by omega) ⟨by simp,fun i hi=>by omega⟩ ?_ ?_
    · rintro i s hi ⟨h1,h2⟩
      rw [zL (by omega)]
      simp only [Option.bind_some,kl (show i < s.length by omega)]
      refine Ret.some ⟨by simp [h1],fun j hj => ?_⟩
      rw [List.getD_eq_getElem?_getD,List.getElem?_set]
      by_cases e:i=j
      · subst e;rw [if_pos rfl,if_pos (by omega)];rfl
      · rw [if_neg e,←List.getD_eq_getElem?_getD];exact h2 j (by omega)
    · rintro s ⟨h1,h2⟩
      have hu:UF c.clauses.length s:=⟨h1,fun i hi=>by rw [h2 i hi];omega,h400⟩
      exact ⟨hu,zh5 hu h2⟩
  · rintro (s1 | s1) h0
    case inr=>exact h0.elim
    obtain ⟨h0,h0r⟩:UF c.clauses.length s1∧∀ i,i < c.clauses.length→root s1 i=i:=h0
    simp only [Sum.elim_inl,zk9 c.acts (by omega),Option.bind_some]
    refine Ret.bind (P:=fun o=>match o with | .inl s=>CInv c c.clauses.length s | .inr _=>False) ?_ ?_
    · refine Ret.forL (CInv c) (by omega) ⟨h0,⟨fun a u h=>(by cases h),fun a u h=>(by cases h)⟩,fun _ i hi=>by omega,fun E hE x y hx hy h=>(by rw [h0r x hx,h0r y hy] at h;rw [h];exact hE.eqr.refl y),fun i k hi=>by omega⟩ ?_ (fun s hs=>hs)
      rintro i ⟨ab,us⟩ hi ⟨i1,i2,i4,i5,i3⟩
      simp only at i1 i2 i3 i4 i5
      have hk:=List.getElem?_eq_getElem hi
      have hs8:=sm.start _ (List.getElem_mem hi)
      simp only [zO,hk,Option.bind_some]
      refine Ret.bind (P:=fun b=>Mg c.clauses.length ab b∧(xL c.acts=true→root b 0=root b i)∧∀ E,Ties c E→UE c.clauses.length E b) ?_ ?_
      · cases hwh:xL c.acts with
        | false=>exact Ret.some ⟨.refl i1,fun h=>(by cases h),i5⟩
        | true=>
          have:=zbb (i:=0) i1 (by omega) hi
          refine Ret.bind this fun b hb=>Ret.some ⟨hb.1,fun _=>hb.2.1,fun E hE=>hb.2.2 E hE.eqr (hE.whole hwh 0 i (by omega) hi) (i5 E hE)⟩
      · rintro v1 ⟨hv1,hv2,hv3⟩
        refine Ret.bind (P:=fun o=>match o with | .inl b=>Mg c.clauses.length v1 b∧(∀ E,Ties c E→UE c.clauses.length E b)∧∀ s∈c.clauses[i].start,root b i=root b s.clause.toNat | .inr _=>False) ?_ ?_
        · refine Ret.forL (fun m b=>Mg c.clauses.length v1 b∧(∀ E,Ties c E→UE c.clauses.length E b)∧∀ (q:Nat) (hq:q < c.clauses[i].start.length),q < m→root b i=root b c.clauses[i].start[q].clause.toNat) (by omega) ⟨.refl hv1.uf,hv3,fun q hq h=>by omega⟩ ?_ ?_
          · rintro q b hq ⟨b1,b3,b2⟩
            have hcd:=sm.cond i _ hk _ (List.getElem_mem hq)
            simp only [zO,List.getElem?_eq_getElem hq,Option.bind_some]
            have e:c.clauses[i].start[q].clause=(c.clauses[i].start[q].clause.toNat:Int):=by omega
            have hj:c.clauses[i].start[q].clause.toNat < c.clauses.length:=by omega
            rw [e]
            refine Ret.bind (zbb b1.uf hi hj) fun b' hb'=>Ret.some ⟨b1.trans hb'.1,fun E hE=>hb'.2.2 E hE.eqr (hE.start i _ hk _ (List.getElem_mem hq)) (b3 E hE),fun q' hq' hlt => ?_⟩
            rcases Nat.lt_or_ge q' q with h | h
            · have hcd':=sm.cond i _ hk _ (List.getElem_mem hq')
              exact hb'.1.eq _ _ hi (by omega) (b2 q' hq' h)
            · obtain rfl:q'=q:=by omega
              exact hb'.2.1
          · rintro b ⟨b1,b3,b2⟩
            refine ⟨b1,b3,fun s hs => ?_⟩
            obtain ⟨q,hq,e⟩:=List.getElem_of_mem hs
            rw [←e];exact b2 q hq hq
        · rintro (b | b) hb
          case inr=>exact hb.elim
          obtain ⟨b1,b3,b2⟩:=hb
          have b0:=hv1.trans b1
          simp only [Sum.elim_inl,zfh,Option.bind_some]
          have hn3:=zfi c.clauses[i]
          refine Ret.bind (P:=fun o=>match o with | .inl s=>CInv c (i+1) s | .inr _=>False) ?_ ?_
          · refine Ret.forL (fun m s=>Mg c.clauses.length b s.1∧Users c c.clauses.length s.2∧(∀ E,Ties c E→UE c.clauses.length E s.1)∧(∀ a u,zp a us=some u→zp a s.2=some u)∧∀ (q:Nat) (hq:q < (jE c.clauses[i]).length),q < m→∃ u:Nat,zp (jE c.clauses[i])[q] s.2=some (u:Int)∧u < c.clauses.length∧root s.1 u=root s.1 i) (by omega) ⟨.refl b1.uf,i2,b3,fun _ _ h=>h,fun q hq h=>by omega⟩ ?_ ?_
            · rintro q ⟨d,ws⟩ hq ⟨d1,d2,d5,d3,d4⟩
              simp only at d1 d2 d3 d4 d5
              simp only [zO,List.getElem?_eq_getElem hq,Option.bind_some]
              cases hm:zp (jE c.clauses[i])[q] ws with
              | some u=>
                have hu:=d2.rng _ _ hm
                obtain ⟨kq,hkq,haq⟩:=d2.use _ _ hm
                simp only [Option.isSome_some,cond_true,Option.getD_some]
                have e:u=(u.toNat:Int):=by omega
                rw [e]
                have:=zbb (i:=u.toNat) d1.uf (by omega) hi
                refine Ret.bind (P:=fun r:List Int×List (Int×Int)=>r.2=ws∧Mg c.clauses.length d r.1∧(∀ E,Ties c E→UE c.clauses.length E r.1)∧root r.1 u.toNat=root r.1 i) (Ret.bind this fun b' hb'=>Ret.some ⟨rfl,hb'.1,fun E hE=>hb'.2.2 E hE.eqr (hE.nums _ _ _ _ _ hkq hk haq (List.getElem_mem hq)) (d5 E hE),hb'.2.1⟩) ?_
                rintro ⟨d',ws'⟩ ⟨rfl,g1,g3,g2⟩
                refine Ret.some ⟨d1.trans g1,d2,g3,d3,fun q' hq' hlt => ?_⟩
                rcases Nat.lt_or_ge q' q with h | h
                · obtain ⟨u',f1,f2,f3⟩:=d4 q' hq' h
                  exact ⟨u',f1,f2,g1.eq _ _ f2 hi f3⟩
                · obtain rfl:q'=q:=by omega
                  exact ⟨u.toNat,by rw [←e];exact hm,by omega,g2⟩
              | none=>
                simp only [Option.isSome_none,cond_false,Option.bind_some]
                refine Ret.some ⟨d1,⟨fun a u hu => ?_,fun a u hu => ?_⟩,d5,fun a u hu => ?_,fun q' hq' hlt => ?_⟩
                · rw [xZ] at hu
                  split at hu
                  · cases hu;omega
                  · exact d2.rng a u hu
                · rw [xZ] at hu
                  split at hu
                  · rename_i e
                    cases hu
                    exact ⟨c.clauses[i],by rw [Int.toNat_natCast];exact hk,by rw [e];exact List.getElem_mem hq⟩
                  · exact d2.use a u hu
                · show zp a (zQ (jE c.clauses[i])[q] (i:Int) ws)=some u
                  rw [xZ]
                  split
                  · rename_i e;rw [e] at hu;rw [d3 _ _ hu] at hm;cases hm
                  · exact d3 a u hu
                · show ∃ u:Nat,zp (jE c.clauses[i])[q'] (zQ (jE c.clauses[i])[q] (i:Int) ws)=some (u:Int)∧u < c.clauses.length∧root d u=root d i
                  rw [xZ]
                  split
                  · exact ⟨i,rfl,hi,rfl⟩
                  · rename_i hne
                    rcases Nat.lt_or_ge q' q with h | h
                    · exact d4 q' hq' h
                    · obtain rfl:q'=q:=by omega
                      exact absurd rfl hne
            · rintro ⟨d,ws⟩ ⟨d1,d2,d5,d3,d4⟩
              simp only at d1 d2 d3 d4 d5
              refine ⟨d1.uf,d2,fun hw j hj => ?_,d5,fun j k hj hkj => ?_⟩
              · have h0c:0 < c.clauses.length:=by omega
                rcases Nat.lt_or_ge j i with h | h
                · exact (b0.trans d1).eq _ _ h0c (by omega) (i4 hw j h)
                · obtain rfl:j=i:=by omega
                  exact (b1.trans d1).eq _ _ h0c hi (hv2 hw)
              show Hangs c.clauses.length k j d ws
              rcases Nat.lt_or_ge j i with h | h
              · have hj':j < c.clauses.length:=by omega
                obtain ⟨g1,g2⟩:=i3 j k h hkj
                have M:=b0.trans d1
                refine ⟨fun s hs => ?_,fun a ha => ?_⟩
                · have hcd:=sm.cond j k hkj s hs
                  exact M.eq _ _ hj' (by omega) (g1 s hs)
                · obtain ⟨u,f1,f2,f3⟩:=g2 a ha
                  exact ⟨u,d3 _ _ f1,f2,M.eq _ _ f2 hj' f3⟩
              · obtain rfl:j=i:=by omega
                rw [hk] at hkj
                cases hkj
                refine ⟨fun s hs => ?_,fun a ha => ?_⟩
                · have hcd:=sm.cond j _ hk s hs
                  exact d1.eq _ _ hi (by omega) (b2 s hs)
                · obtain ⟨q,hq,e⟩:=List.getElem_of_mem ha
                  rw [←e]
                  exact d4 q hq hq
          · rintro (s | s) hs
            · exact Ret.some hs
            · exact hs.elim
    · rintro (s | s) hs
      case inr=>exact hs.elim
      obtain ⟨c1,c2,c4,c5,c3⟩:=hs
      obtain ⟨ab',e⟩:=zgE c1
      simp only [Sum.elim_inl,e,Option.bind_some]
      refine Ret.some ⟨root s.1,⟨fun hw i j hi hj=>(c4 hw i hi).symm.trans (c4 hw j hj),fun E hE i j hi hj h=>c5 E hE i j hi hj h,zfg c1,fun i k hk=>(c3 i k (List.getElem?_eq_some_iff.1 hk).1 hk).start,fun i j k q a hk hq ha hb => ?_⟩,rfl⟩
      obtain ⟨u,f1,f2,f3⟩:=(c3 i k (List.getElem?_eq_some_iff.1 hk).1 hk).nums a ha
      obtain ⟨u',g1,g2,g3⟩:=(c3 j q (List.getElem?_eq_some_iff.1 hq).1 hq).nums a hb
      rw [f1] at g1
      have:u=u':=by have:=Option.some.inj g1;omega
      subst this
      rw [←f3,←g3]
theorem zgF {c:ContractT} {party:Int} {p:PosT} {n:Nat} {x:Int}:x∈jo c party p n↔∃ i:Nat,i < n∧mvB c party p i=true∧x=(i:Int):=by
  unfold jo
  simp only [List.mem_map,List.mem_filter,List.mem_range]
  constructor
  · rintro ⟨i,⟨a,b⟩,rfl⟩;exact ⟨i,a,b,rfl⟩
  · rintro ⟨i,a,b,rfl⟩;exact ⟨i,⟨a,b⟩,rfl⟩
theorem qd {c:ContractT} {party:Int} {p:PosT} {x:Int}:x∈zB c party p↔(p.own=true∧x = -2)∨(p.state.day < c.days∧p.own=false∧x = -1)∨(p.state.day < c.days∧∃ i:Nat,i < c.acts.length∧mvB c party p i=true∧x=(i:Int)):=by
  unfold zB
  by_cases hd:c.days≤p.state.day
  · have:¬ p.state.day < c.days:=by omega
    simp only [hd,decide_true,cond_true,List.append_nil,this,false_and,or_false]
    cases p.own<;>simp
  · have:p.state.day < c.days:=by omega
    simp only [hd,decide_false,cond_false,List.mem_append,zgF,this,true_and]
    cases p.own<;>simp
def zgG (s:StateT):Bool:=decide ((s.holders.length:Int)≤20)&&(decide ((s.used.length:Int)≤70)&&decide ((s.marks.length:Int)≤60))
theorem zh6 (s:StateT):Xg s=some (zgG s):=by
  unfold Xg zgG
  simp only [zo,Option.bind_some,Bool.cond_false_right]
def zbd (c:ContractT) (n:Int):Bool:=
  !(decide (20 < (c.holders.length:Int))||(decide (30 < (c.units.length:Int))||(decide (70 < (c.acts.length:Int))||(decide (n < (c.clauses.length:Int))||decide (100 < (c.off.length:Int))))))&&c.clauses.all (fun k=>!decide (20 < (k.start.length:Int)))
theorem zfj (c:ContractT) (n:Int) (hc:c.clauses.length < 4611686018427387904):Zq c n=some (zbd c n):=by
  unfold Zq zbd
  rw [kQ (l:=c.clauses) (fun k=>!decide (20 < (k.start.length:Int))) hc (fun i hi=>by
    simp only [zO,List.getElem?_eq_getElem hi,Option.bind_some]
    cases decide (20 < (c.clauses[i].start.length:Int))<;>rfl)]
  simp only [zo,Option.bind_some,Bool.cond_true_left]
  cases (decide (20 < (c.holders.length:Int))||(decide (30 < (c.units.length:Int))||(decide (70 < (c.acts.length:Int))||(decide (n < (c.clauses.length:Int))||decide (100 < (c.off.length:Int)))))) <;>
    cases c.clauses.all (fun k=>!decide (20 < (k.start.length:Int)))<;>rfl
def KI (c:ContractT):Bool:=zbd c 6&&(decide ((c.acts.length:Int)≤8)&&decide (c.days≤20))
theorem zjN {c:ContractT} (hc:c.Ok):Vg c=some (KI c):=by
  unfold Vg KI
  rw [zfj c 6 (hc.clauses.lt (by omega))]
  simp only [zo,Option.bind_some,Bool.cond_false_right]
theorem yf {d:Nat} (h:d < 10):(UInt8.ofNat (48+d)).toNat=48+d:=by
  rw [UInt8.toNat_ofNat'];omega
theorem JN:∀ (u:Nat),∀ b∈Lib.decDigits u,48≤b.toNat∧b.toNat≤57:=by
  intro u
  induction u using Nat.strongRecOn with
  | _ u ih=>
    intro b hb
    rw [Lib.decDigits] at hb
    by_cases h:u < 10
    · rw [dif_pos h] at hb
      simp only [List.mem_singleton] at hb
      subst hb
      rw [yf h];omega
    · rw [dif_neg h] at hb
      rcases List.mem_append.1 hb with hb | hb
      · exact ih (u / 10) (by omega) b hb
      · simp only [List.mem_singleton] at hb
        subst hb
        rw [yf (by omega)];omega
def JO (l:List UInt8):Nat:=l.foldl (fun a b=>a*10+(b.toNat - 48)) 0
theorem yY:∀ (u:Nat),JO (Lib.decDigits u)=u:=by
  intro u
  induction u using Nat.strongRecOn with
  | _ u ih=>
    rw [Lib.decDigits]
    by_cases h:u < 10
    · rw [dif_pos h]
      simp only [JO,List.foldl_cons,List.foldl_nil,yf h];omega
    · rw [dif_neg h]
      have:=ih (u / 10) (by omega)
      unfold JO at this ⊢
      rw [List.foldl_append,this]
      simp only [List.foldl_cons,List.foldl_nil,yf (show u % 10 < 10 by omega)];omega
theorem zgH {a b:Int} (h:Lib.itoa a=Lib.itoa b):a=b:=by
  have key:∀ (u v:Nat),45::Lib.decDigits u=Lib.decDigits v→False:=by
    intro u v h
    have:=JN v 45 (by rw [←h];exact List.mem_cons_self)
    have e:(45:UInt8).toNat=45:=rfl
    omega
  unfold Lib.itoa at h
  by_cases ha:a < 0
  · by_cases hb:b < 0
    · rw [if_pos ha,if_pos hb] at h
      have h1:=congrArg JO (List.cons.inj h).2
      rw [yY,yY] at h1
      omega
    · rw [if_pos ha,if_neg hb] at h
      exact (key _ _ h).elim
  · by_cases hb:b < 0
    · rw [if_neg ha,if_pos hb] at h
      exact (key _ _ h.symm).elim
    · rw [if_neg ha,if_neg hb] at h
      have h1:=congrArg JO h
      rw [yY,yY] at h1
      omega
theorem Y2 (n:Int):∀ b∈Lib.itoa n,b≠32:=by
  intro b hb e
  subst e
  have e:(32:UInt8).toNat=32:=rfl
  unfold Lib.itoa at hb
  split at hb
  · rcases List.mem_cons.1 hb with h | h
    · exact absurd h (by decide)
    · have:=JN _ _ h;omega
  · have:=JN _ _ hb;omega
def PI {α:Type} (f:α→List UInt8):Prop:=∀ (a b:α) (xs ys:List UInt8),f a++xs=f b++ys→a=b∧xs=ys
theorem zcm:∀ {a b xs ys:List UInt8},(∀ x∈a,x≠32)→(∀ x∈b,x≠32)→a++32::xs=b++32::ys→a=b∧xs=ys
  | [],[],xs,ys,_,_,h=>⟨rfl,(List.cons.inj h).2⟩
  | [],y::b,xs,ys,_,hb,h=>absurd (List.cons.inj h).1.symm (hb y List.mem_cons_self)
  | x::a,[],xs,ys,ha,_,h=>absurd (List.cons.inj h).1 (ha x List.mem_cons_self)
  | x::a,y::b,xs,ys,ha,hb,h=>by
    obtain ⟨h1,h2⟩:=List.cons.inj h
    obtain ⟨h3,h4⟩:=zcm (a:=a) (b:=b) (fun z hz=>ha z (List.mem_cons_of_mem _ hz)) (fun z hz=>hb z (List.mem_cons_of_mem _ hz)) h2
    exact ⟨by rw [h1,h3],h4⟩
theorem Z4:PI qq:=fun a b xs ys h=>by
  unfold qq at h
  rw [List.append_assoc,List.append_assoc] at h
  obtain ⟨h1,h2⟩:=zcm (Y2 a) (Y2 b) h
  exact ⟨zgH h1,h2⟩
theorem V1:PI qF:=fun a b xs ys h=>by
  unfold qF at h
  obtain ⟨h1,h2⟩:=List.cons.inj h
  refine ⟨?_,h2⟩
  cases a<;>cases b<;>first | rfl | exact absurd h1 (by decide)
theorem zh7:PI xT:=fun a b xs ys h=>by
  unfold xT at h
  simp only [List.append_assoc] at h
  obtain ⟨h1,h⟩:=Z4 _ _ _ _ h
  obtain ⟨h2,h⟩:=Z4 _ _ _ _ h
  obtain ⟨h3,h⟩:=Z4 _ _ _ _ h
  obtain ⟨h4,h⟩:=Z4 _ _ _ _ h
  obtain ⟨h5,h6⟩:=V1 _ _ _ _ h
  refine ⟨?_,h6⟩
  clear h6 h
  cases a;cases b
  simp only at h1 h2 h3 h4 h5
  subst h1;subst h2;subst h3;subst h4;subst h5
  rfl
theorem Xo {α:Type} {f:α→List UInt8} (hf:PI f):∀ {l m:List α} {xs ys:List UInt8},l.length=m.length→l.flatMap f++xs=m.flatMap f++ys→l=m∧xs=ys
  | [],[],_,_,_,h=>⟨rfl,h⟩
  | [],_::_,_,_,hl,_=>by simp at hl
  | _::_,[],_,_,hl,_=>by simp at hl
  | a::l,b::m,xs,ys,hl,h=>by
    rw [List.flatMap_cons,List.flatMap_cons,List.append_assoc,List.append_assoc] at h
    obtain ⟨h1,h⟩:=hf _ _ _ _ h
    obtain ⟨h2,h⟩:=Xo hf (by simpa using hl) h
    exact ⟨by rw [h1,h2],h⟩
theorem zgI {c:ContractT} {p q:PosT} (hp:VS c p.state) (hq:VS c q.state) (h:qw p=qw q):p=q:=by
  unfold qw at h
  simp only [List.append_assoc] at h
  obtain ⟨h1,h⟩:=V1 _ _ _ _ h
  obtain ⟨h2,h⟩:=Z4 _ _ _ _ h
  obtain ⟨h3,h⟩:=Xo Z4 (by rw [hp.lh,hq.lh]) h
  obtain ⟨h4,h⟩:=Xo V1 (by rw [hp.lu,hq.lu]) h
  have h5:=(Xo (l:=p.state.marks) (m:=q.state.marks) (xs:=[]) (ys:=[]) zh7 (by rw [hp.lm,hq.lm]) (by rw [List.append_nil,List.append_nil];exact h)).1
  clear h
  obtain ⟨⟨d,hs,us,ms⟩,o⟩:=p
  obtain ⟨⟨d',hs',us',ms'⟩,o'⟩:=q
  simp only at h1 h2 h3 h4 h5
  subst h1;subst h2;subst h3;subst h4;subst h5;rfl
theorem QL {α:Type} {f:α→List UInt8} {b:Nat}:∀ {l:List α},(∀ a∈l,(f a).length≤b)→(l.flatMap f).length≤l.length*b
  | [],_=>by simp
  | a::l,h=>by
    have h1:=h a List.mem_cons_self
    have h2:=QL (f:=f) (b:=b) (l:=l) fun x hx=>h x (List.mem_cons_of_mem _ hx)
    rw [List.flatMap_cons,List.length_append,List.length_cons,Nat.succ_mul];omega
theorem zjO {c:ContractT} {i:Nat} {k:ClauseT} {m:MarkT} (kv:KV c i k) (hp:c.parties≤12) (h:jh c.parties k m=true):(0≤m.status∧m.status≤5)∧(0≤m.left∧m.left≤400)∧(0≤m.got∧m.got≤9)∧(-1≤m.bearer∧m.bearer≤12):=by
  have hn:=kv.need
  rcases vG.1 h with ⟨h0,_,h1⟩ | ⟨h0,h1,h2⟩ | ⟨h0,h1,h2,h3⟩ | ⟨h0,h1⟩
  · simp only [KF,Bool.and_eq_true,beq_iff_eq] at h1
    omega
  · have hr:qY m=true:=by simp [qY,h0]
    obtain ⟨rv,_,_⟩:=xW kv h hr
    have:=rv.left;have:=rv.got;have:=rv.bearer
    omega
  · have hr:qY m=true:=by simp [qY,h0]
    obtain ⟨rv,_,_⟩:=xW kv h hr
    have:=rv.left;have:=rv.got;have:=rv.bearer
    omega
  · simp only [zdr,Bool.and_eq_true,beq_iff_eq,decide_eq_true_eq] at h1
    omega
theorem vJ {n:Int} (h0 : -1000000≤n) (h1:n≤1000000):wp n=true:=by
  simp only [wp,Bool.and_eq_true,decide_eq_true_eq];omega
theorem km {n:Int} (h0 : -1000000≤n) (h1:n≤1000000):(qq n).length≤22:=by
  have:=Lib.itoa_length_le n (by omega) (by omega)
  simp only [qq,List.length_append,List.length_cons,List.length_nil];omega
def txt (p:PosT):ByteArray:=⟨(qw p).toArray⟩
theorem zcn {c:ContractT} {p q:PosT} (hp:VS c p.state) (hq:VS c q.state) (h:txt p=txt q):p=q:=by
  refine zgI hp hq ?_
  unfold txt at h
  have h2:=congrArg (fun b:ByteArray=>b.data.toList) h
  simpa using h2
theorem zfk {c:ContractT} (hc:c.Ok) {p:PosT} (hp:VS c p.state):xF p=some (txt p):=by
  have ho:=hc.off.lt (by omega:0 < 8)
  have sm:=qu ho hp.cv
  have hpa:=sm.parties
  have hda:=sm.days
  have hday:=hp.day
  have hf:=hp.few hc
  have hh:∀ h∈p.state.holders,-1000000≤h∧h≤1000000:=fun h hh=>by have:=hp.hold h hh;omega
  have hm:∀ m∈p.state.marks,(0≤m.status∧m.status≤5)∧(0≤m.left∧m.left≤400)∧(0≤m.got∧m.got≤9)∧(-1≤m.bearer∧m.bearer≤12):=fun m hm=>by
    obtain ⟨i,hi,rfl⟩:=List.getElem_of_mem hm
    have hk:=List.getElem?_eq_getElem (show i < c.clauses.length by have:=hp.lm;omega)
    exact zjO (ww ho hp.cv hk) (by omega) (hp.mrk i _ _ hk (List.getElem?_eq_getElem hi))
  have hlen:(qw p).length≤1000000000:=by
    have h1:=km (n:=p.state.day) (by omega) (by omega)
    have h2:=QL (f:=qq) (b:=22) (l:=p.state.holders) fun h hh'=>km (hh h hh').1 (hh h hh').2
    have h3:=QL (f:=qF) (b:=1) (l:=p.state.used) fun _ _=>by simp [qF]
    have h4:=QL (f:=xT) (b:=89) (l:=p.state.marks) fun m hm'=>by
      have:=hm m hm'
      have a1:=km (n:=m.status) (by omega) (by omega)
      have a2:=km (n:=m.left) (by omega) (by omega)
      have a3:=km (n:=m.got) (by omega) (by omega)
      have a4:=km (n:=m.bearer) (by omega) (by omega)
      simp only [xT,qF,List.length_append,List.length_cons,List.length_nil];omega
    simp only [qw,List.length_append]
    have:(qF p.own).length=1:=rfl
    omega
  have hok:okP p=true:=by
    simp only [okP,Bool.and_eq_true,decide_eq_true_eq,List.all_eq_true]
    refine ⟨⟨⟨vJ (by omega) (by omega),fun x hx=>vJ (hh x hx).1 (hh x hx).2⟩,fun m hm' => ?_⟩,hlen⟩
    have:=hm m hm'
    exact ⟨⟨⟨vJ (by omega) (by omega),vJ (by omega) (by omega)⟩,vJ (by omega) (by omega)⟩,vJ (by omega) (by omega)⟩
  unfold xF txt
  rw [if_pos hok]
instance:BEq PosT:=⟨fun a b=>a.own == b.own&&yd a.state b.state⟩
instance:LawfulBEq PosT where
  eq_of_beq {a b} h:=by
    have h':(a.own == b.own&&yd a.state b.state)=true:=h
    simp only [Bool.and_eq_true,beq_iff_eq,JJ] at h'
    obtain ⟨h1,h2⟩:=h'
    cases a;cases b;simp_all
  rfl {a}:=by
    show (a.own == a.own&&yd a.state a.state)=true
    simp [JJ.2 rfl]
noncomputable instance:DecidableEq PosT:=fun a b=>if h:(a == b)=true then isTrue (eq_of_beq h) else isFalse fun e=>h (beq_iff_eq.2 e)
def Z5 (q:PosT) (L:List PosT):Option Int:=if q∈L then some (L.idxOf q:Int) else none
def visit (L:List PosT) (q:PosT):Option (Int×List PosT):=if q∈L then some ((L.idxOf q:Int),L) else if L.length=1500 then none else some ((L.length:Int),L++[q])
def zbe (L:List PosT) (F:List (ByteArray×Int)) (q:PosT):List (ByteArray×Int):=if q∈L then F else zQ (txt q) (L.length:Int) F
def FRel (c:ContractT) (F:List (ByteArray×Int)) (L:List PosT):Prop:=∀ q:PosT,VS c q.state→zp (txt q) F=Z5 q L
theorem Z6 {α β:Type} [DecidableEq α] (k:α) (v:β):∀ l:List (α×β),zp k (zQ k v l)=some v
  | []=>by simp [zQ,zp]
  | (k',v')::r=>by
    unfold zQ
    split
    · simp [zp]
    · rename_i h;simp only [zp,h,if_false];exact Z6 k v r
theorem JP {α β:Type} [DecidableEq α] {k k2:α} (v:β) (h:k2≠k):∀ l:List (α×β),zp k2 (zQ k v l)=zp k2 l
  | []=>by simp [zQ,zp,h]
  | (k',v')::r=>by
    unfold zQ
    split
    · rename_i e;subst e;simp only [zp,h,if_false]
    · by_cases h2:k2=k'
      · simp only [zp,h2,if_true]
      · simp only [zp,h2,if_false];exact JP v h r
theorem zbV {q q':PosT} {L:List PosT} (hq:q ∉ L):Z5 q' (L++[q])=if q'=q then some (L.length:Int) else Z5 q' L:=by
  unfold Z5
  by_cases h:q'=q
  · subst h
    rw [if_pos (by simp),if_pos rfl,List.idxOf_append,if_neg hq]
    simp
  · rw [if_neg h]
    by_cases hm:q'∈L
    · rw [if_pos (by simp [hm]),if_pos hm,List.idxOf_append,if_pos hm]
    · rw [if_neg (by simp [hm,h]),if_neg hm]
theorem FRel.visit {c:ContractT} {F:List (ByteArray×Int)} {L L':List PosT} {q:PosT} {to:Int} (h:FRel c F L) (hq:VS c q.state) (hv:visit L q=some (to,L')):FRel c (zbe L F q) L':=by
  unfold Go.Proofs.YtjkljacdbljkpaaGreatDoor.visit at hv
  unfold zbe
  by_cases hm:q∈L
  · rw [if_pos hm] at hv ⊢; cases hv;exact h
  · rw [if_neg hm] at hv ⊢
    split at hv
    · cases hv
    · cases hv
      intro q' hq'
      rw [zbV hm]
      by_cases e:q'=q
      · subst e;rw [Z6,if_pos rfl]
      · rw [JP _ (fun h2=>e (zcn hq' hq h2)),if_neg e,h q' hq']
theorem zgJ {c:ContractT} {F:List (ByteArray×Int)} {L:List PosT} {q:PosT} (h:FRel c F L) (hq:VS c q.state) (hl:L.length≤1500) :
    (bif ((zp (txt q) F).isSome) then some (.inl (((zp (txt q) F).getD 0),L,F)) else (bif ((L.length:Int) == 1500) then some (.inr ()) else (Option.bind (qt (α:=PosT) 88 L [q]) fun e2=>some (.inl ((L.length:Int),e2,(zQ (txt q) (L.length:Int) F)))))) =
      some (match visit L q with | some (to,L')=>(.inl (to,L',zbe L F q):(Int×(List PosT)×(List (ByteArray×Int))) ⊕ Unit) | none=>.inr ()):=by
  rw [h q hq]
  unfold Z5 visit zbe
  by_cases hm:q∈L
  · simp only [hm,if_true,Option.isSome_some,cond_true,Option.getD_some]
  · simp only [hm,if_false,Option.isSome_none,cond_false]
    by_cases h2:L.length=1500
    · have:((L.length:Int) == 1500)=true:=beq_iff_eq.2 (by omega)
      simp only [h2,if_true];rfl
    · have:((L.length:Int) == 1500)=false:=beq_eq_false_iff_ne.2 (by omega)
      simp only [h2,if_false,this,cond_false]
      rw [kg (by simp;omega)];rfl
noncomputable def jU (c:ContractT) (e:PosT):List Int→List PosT×List MoveT→Option (List PosT×List MoveT)
  | [],s=>some s
  | m::ms,(L,K)=>match visit L (target c e m) with
    | none=>none
    | some (to,L')=>jU c e ms (L',K++[{step:=m,to:=to}])
theorem ZF (c:ContractT) (e:PosT):∀ (a b:List Int) (s:List PosT×List MoveT),jU c e (a++b) s=(jU c e a s).bind (jU c e b)
  | [],b,s=>rfl
  | m::a,b,(L,K)=>by
    simp only [List.cons_append,jU]
    cases visit L (target c e m) with
    | none=>rfl
    | some x=>exact ZF c e a b _
def Wa:Nat→List MoveT→Option Nat
  | n,[]=>some n
  | n,t::r=>if 0≤t.to∧t.to≤(n:Int) then Wa (if t.to=(n:Int) then n+1 else n) r else none
def yJ:Nat→Nat→List (List MoveT)→Option Nat
  | i,n,[]=>some n
  | i,n,l::r=>if i < n then (Wa n l).bind fun n'=>yJ (i+1) n' r else none
theorem XI (l:List MoveT):∀ (M:List (List MoveT)) (i n:Nat),yJ i n (M++[l])=(yJ i n M).bind fun n'=>if i+M.length < n' then Wa n' l else none
  | [],i,n=>by
    simp only [List.nil_append,yJ,Option.bind_some,List.length_nil,Nat.add_zero]
    split
    · cases Wa n l<;>rfl
    · rfl
  | x::M,i,n=>by
    simp only [List.cons_append,yJ,List.length_cons]
    split
    · cases Wa n x with
      | none=>rfl
      | some n'=>
        simp only [Option.bind_some]
        rw [XI l M (i+1) n',show i+1+M.length=i+(M.length+1) by omega]
    · rfl
inductive Rch (c:ContractT) (party:Int) (p0:PosT):PosT→Prop where
  | base:Rch c party p0 p0
  | step {q:PosT} {m:Int} (h:Rch c party p0 q) (hm:m∈zB c party q):Rch c party p0 (target c q m)
theorem JQ {c:ContractT} (hc:c.Ok) {party:Int} {e:PosT} {m:Int} (he:VS c e.state) (hm:m∈zB c party e):VS c (target c e m).state:=by
  unfold target
  by_cases h2:m = -2
  · rw [if_pos h2];exact he
  · rw [if_neg h2]
    rcases qd.1 hm with h | ⟨hd,_,rfl⟩ | ⟨hd,i,hi,_,rfl⟩
    · exact absurd h.2 h2
    · exact (xX hc he (by omega) (by omega) hd).2.1
    · exact (xX hc he (by omega) (by omega) hd).2.1
structure PInv (c:ContractT) (party:Int) (p0:PosT) (L:List PosT):Prop where
  vs:∀ q∈L,VS c q.state
  nd:L.Nodup
  rch:∀ q∈L,Rch c party p0 q
  len:L.length≤1500
theorem Y3 {c:ContractT} {party:Int} {p0 q:PosT} {L L':List PosT} {to:Int} (h:PInv c party p0 L) (hq:VS c q.state) (hr:Rch c party p0 q) (hv:visit L q=some (to,L')) :
    PInv c party p0 L'∧(∃ r,L'=L++r)∧0≤to∧L'[to.toNat]?=some q∧to≤(L.length:Int)∧L'.length=(if to=(L.length:Int) then L.length+1 else L.length):=by
  unfold visit at hv
  by_cases hm:q∈L
  · rw [if_pos hm] at hv;cases hv
    have hi:=List.idxOf_lt_length_iff.2 hm
    refine ⟨h,⟨[],by simp⟩,by omega,?_,by omega,by rw [if_neg (by omega)]⟩
    rw [Int.toNat_natCast,List.getElem?_eq_getElem hi,List.getElem_idxOf hi]
  · rw [if_neg hm] at hv
    split at hv
    · cases hv
    · rename_i hl
      cases hv
      have hlen:=h.len
      refine ⟨⟨fun x hx => ?_,?_,fun x hx => ?_,by simp;omega⟩,⟨[q],rfl⟩,by omega,by simp,Int.le_refl _,by simp⟩
      · rcases List.mem_append.1 hx with hx | hx
        · exact h.vs x hx
        · rw [List.mem_singleton.1 hx];exact hq
      · exact List.nodup_append.2 ⟨h.nd,by simp,fun a ha b hb=>by rw [List.mem_singleton.1 hb];exact fun e=>hm (e ▸ ha)⟩
      · rcases List.mem_append.1 hx with hx | hx
        · exact h.rch x hx
        · rw [List.mem_singleton.1 hx];exact hr
theorem zfl {L:List PosT} {q:PosT} (hv:visit L q=none):q ∉ L:=by
  unfold visit at hv
  split at hv
  · cases hv
  · assumption
theorem zdB {L:List PosT} {q:PosT} (hv:visit L q=none):L.length=1500:=by
  unfold visit at hv
  split at hv
  · cases hv
  · split at hv
    · rename_i h;exact h
    · cases hv
def MvOk (c:ContractT) (party:Int) (L:List PosT) (e:PosT) (ms:List Int) (T:List MoveT):Prop:=T.map (·.step)=ms∧∀ t∈T,0≤t.to∧L[t.to.toNat]?=some (target c e t.step)
theorem Xp {α:Type} {L r:List α} {i:Nat} {x:α} (h:L[i]?=some x):(L++r)[i]?=some x:=by
  rw [List.getElem?_append_left (List.getElem?_eq_some_iff.1 h).1];exact h
theorem MvOk.app {c:ContractT} {party:Int} {L:List PosT} {e:PosT} {ms:List Int} {T:List MoveT} (h:MvOk c party L e ms T) (r:List PosT):MvOk c party (L++r) e ms T:=
  ⟨h.1,fun t ht=>⟨(h.2 t ht).1,Xp (h.2 t ht).2⟩⟩
theorem Wb {c:ContractT} (hc:c.Ok) {party:Int} {p0 e:PosT} (he:VS c e.state) (hr:Rch c party p0 e):∀ (ms:List Int) (L L':List PosT) (K K':List MoveT),(∀ m∈ms,m∈zB c party e)→PInv c party p0 L→jU c e ms (L,K)=some (L',K') →
    PInv c party p0 L'∧(∃ r,L'=L++r)∧∃ T,K'=K++T∧MvOk c party L' e ms T∧Wa L.length T=some L'.length
  | [],L,L',K,K',_,h,hp=>by
    cases hp
    exact ⟨h,⟨[],by simp⟩,[],by simp,⟨rfl,fun t ht=>by cases ht⟩,rfl⟩
  | m::ms,L,L',K,K',hms,h,hp=>by
    simp only [jU] at hp
    have hm:=hms m List.mem_cons_self
    cases hv:visit L (target c e m) with
    | none=>rw [hv] at hp;cases hp
    | some x=>
      obtain ⟨to,L1⟩:=x
      rw [hv] at hp
      obtain ⟨h1,⟨r1,e1⟩,t0,tq,tl,tn⟩:=Y3 h (JQ hc he hm) (.step hr hm) hv
      obtain ⟨h2,⟨r2,e2⟩,T,eT,hT,hch⟩:=Wb hc he hr ms L1 L' _ K' (fun x hx=>hms x (List.mem_cons_of_mem _ hx)) h1 hp
      refine ⟨h2,⟨r1++r2,by rw [e2,e1,List.append_assoc]⟩,{step:=m,to:=to}::T,by rw [eT];simp,⟨by simp [hT.1],fun t ht => ?_⟩,?_⟩
      · rcases List.mem_cons.1 ht with rfl | ht
        · exact ⟨t0,by rw [e2];exact Xp tq⟩
        · exact hT.2 t ht
      · simp only [Wa]
        rw [if_pos ⟨t0,tl⟩,←tn];exact hch
theorem Y4 {c:ContractT} (hc:c.Ok) {party:Int} {p0 e:PosT} (he:VS c e.state) (hr:Rch c party p0 e):∀ (ms:List Int) (L:List PosT) (K:List MoveT),(∀ m∈ms,m∈zB c party e)→PInv c party p0 L→jU c e ms (L,K)=none →
    ∃ L1,PInv c party p0 L1∧L1.length=1500∧∃ q,Rch c party p0 q∧q ∉ L1
  | [],L,K,_,h,hp=>by cases hp
  | m::ms,L,K,hms,h,hp=>by
    simp only [jU] at hp
    have hm:=hms m List.mem_cons_self
    cases hv:visit L (target c e m) with
    | none=>exact ⟨L,h,zdB hv,_,.step hr hm,zfl hv⟩
    | some x=>
      obtain ⟨to,L1⟩:=x
      rw [hv] at hp
      obtain ⟨h1,_⟩:=Y3 h (JQ hc he hm) (.step hr hm) hv
      exact Y4 hc he hr ms L1 _ (fun x hx=>hms x (List.mem_cons_of_mem _ hx)) h1 hp
abbrev XT:Type:=(List PosT)×(List (ByteArray×Int))×(List MoveT)
def GotP (c:ContractT) (party:Int) (p0 e:PosT) (L0:List PosT) (ms:List Int) (x:XT):Prop:=jU c e ms (L0,[])=some (x.1,x.2.2)∧FRel c x.2.1 x.1
theorem Y5 {c:ContractT} (hc:c.Ok) {party:Int} {e:PosT} (he:VS c e.state):(zB c party e).length≤62:=by
  have sm:=qu (hc.off.lt (by omega)) he.cv
  have sa:=sm.acts
  have:=YZ c party e c.acts.length
  unfold zB
  cases e.own<;>cases decide (c.days≤e.state.day)<;>simp<;>omega
theorem GotP.facts {c:ContractT} (hc:c.Ok) {party:Int} {p0 e:PosT} {L0:List PosT} {ms:List Int} {x:XT} (he:VS c e.state) (hr:Rch c party p0 e) (hP:PInv c party p0 L0) (hms:∀ m∈ms,m∈zB c party e) (h:GotP c party p0 e L0 ms x) :
    PInv c party p0 x.1∧x.2.2.length=ms.length:=by
  obtain ⟨h1,_,T,eT,hT,_⟩:=Wb hc he hr ms L0 x.1 [] x.2.2 hms hP h.1
  refine ⟨h1,?_⟩
  rw [eT,List.nil_append,←hT.1,List.length_map]
theorem Wc {c:ContractT} (hc:c.Ok) {party:Int} {p0 e:PosT} {L0:List PosT} {ms:List Int} {m:Int} {L:List PosT} {F:List (ByteArray×Int)} {K:List MoveT} {q:PosT} (he:VS c e.state) (hr:Rch c party p0 e) (hP:PInv c party p0 L0) (hms:∀ x∈ms,x∈zB c party e) (hm:m∈zB c party e) (hlen:ms.length≤100)
    (hq:q=target c e m) (h:GotP c party p0 e L0 ms (L,F,K)) {β:Type} {k:Int×(List PosT)×(List (ByteArray×Int))→Option β} {z:Option β} {Q:β→Prop}
    (hk:∀ (to:Int) (L':List PosT) (F':List (ByteArray×Int)),GotP c party p0 e L0 (ms++[m]) (L',F',K++[{step:=m,to:=to}])→qt (α:=MoveT) 16 K [({step:=m,to:=to}:MoveT)]=some (K++[{step:=m,to:=to}])→Ret (k (to,L',F')) Q)
    (hz:jU c e (ms++[m]) (L0,[])=none→Ret z Q) :
    Ret (Option.bind (xF q) fun r=>(Option.bind (α:=(Int×(List PosT)×(List (ByteArray×Int))) ⊕ Unit) (bif ((zp r F).isSome) then some (.inl (((zp r F).getD 0),L,F)) else (bif ((L.length:Int) == 1500) then some (.inr ()) else (Option.bind (qt (α:=PosT) 88 L [q]) fun e2=>some (.inl ((L.length:Int),e2,(zQ r (L.length:Int) F)))))) (Sum.elim k (fun _=>z)))) Q:=by
  obtain ⟨hPI,hKl⟩:=h.facts hc he hr hP hms
  have hvq:VS c q.state:=by rw [hq];exact JQ hc he hm
  refine Ret.bindE (zfk hc hvq) ?_
  refine Ret.bindE (zgJ h.2 hvq hPI.len) ?_
  have happ:jU c e (ms++[m]) (L0,[])=(match visit L q with | none=>none | some (to,L')=>some (L',K++[{step:=m,to:=to}])):=by
    rw [ZF,h.1]
    simp only [Option.bind_some,jU,hq]
    all_goals (cases visit L (target c e m)<;>rfl)
  cases hv:visit L q with
  | none=>
    rw [hv] at happ
    exact hz happ
  | some x=>
    obtain ⟨to,L'⟩:=x
    rw [hv] at happ
    refine hk to L' (zbe L F q) ⟨happ,FRel.visit h.2 hvq hv⟩ (kg ?_)
    simp only at hKl
    rw [hKl];simp;omega
theorem Vp (c:ContractT) (party:Int) (p:PosT) {m n:Nat} (h:m≤n):∃ r,jo c party p n=jo c party p m++r:=by
  induction h with
  | refl=>exact ⟨[],by simp⟩
  | step _ ih=>
    obtain ⟨r,hr⟩:=ih
    rw [yX,hr]
    exact ⟨_,List.append_assoc _ _ _⟩
theorem yN {c:ContractT} {e:PosT} {a b:List Int} {s:List PosT×List MoveT} (h:jU c e a s=none):jU c e (a++b) s=none:=by rw [ZF,h];rfl
structure FromOk (c:ContractT) (party:Int) (p:PosT) (L:List PosT) (M:List (List MoveT)):Prop where
  inv:PInv c party p L
  first:L[0]?=some p
  len:M.length=L.length
  mv:∀ (j:Nat) (T:List MoveT) (e:PosT),M[j]?=some T→L[j]?=some e→MvOk c party L e (zB c party e) T
  chk:yJ 0 1 M=some L.length
def zbf (c:ContractT) (party:Int) (p:PosT):Prop:=∃ L1,PInv c party p L1∧L1.length=1500∧∃ q,Rch c party p q∧q ∉ L1
structure FInv (c:ContractT) (party:Int) (p:PosT) (s:Int×(List PosT)×(List (List MoveT))×(List (ByteArray×Int))):Prop where
  i:s.1=(s.2.2.1.length:Int)
  le:s.2.2.1.length≤s.2.1.length
  inv:PInv c party p s.2.1
  rel:FRel c s.2.2.2 s.2.1
  first:s.2.1[0]?=some p
  mv:∀ (j:Nat) (T:List MoveT) (e:PosT),s.2.2.1[j]?=some T→s.2.1[j]?=some e→MvOk c party s.2.1 e (zB c party e) T
  chk:yJ 0 1 s.2.2.1=some s.2.1.length
theorem zgK {c:ContractT} (hc:c.Ok) {party:Int} {p:PosT} (hpl:xY c party p.state=true) :
    Ret (jk c party p) (fun r=>(r.2=0∧r.1.party=party∧FromOk c party p r.1.positions r.1.moves)∨(r.2=3∧zbf c party p)):=by
  obtain ⟨hp0,hp1,hv⟩:=xK.1 hpl
  have sm:=qu (hc.off.lt (by omega)) hv.cv
  have sa:=sm.acts
  unfold jk
  refine Ret.bindE (by rw [zdw hc,hpl]) ?_
  refine Ret.ite (fun _ => ?_) (fun h=>by cases h)
  refine Ret.bindE (za5 hc hv) ?_
  refine Ret.bindE (zfk hc hv) ?_
  refine Ret.bind (P:=fun o:((List PosT)×(List (List MoveT))) ⊕ Unit=>(∃ L M,o=.inl (L,M)∧FromOk c party p L M)∨(o=.inr ()∧zbf c party p)) ?_ ?_
  · refine Ret.bind (P:=fun o:((List PosT)×(List (List MoveT))) ⊕ Unit=>(∃ L M,o=.inl (L,M)∧FromOk c party p L M)∨(o=.inr ()∧zbf c party p)) (Ret.iter (FInv c party p) (fun s=>(1501 - s.1).toNat) ?_ ?_) ?_
    · refine ⟨rfl,by simp,⟨fun q hq => ?_,by simp,fun q hq => ?_,by simp⟩,?_,rfl,fun j T e h=>by simp at h,rfl⟩
      · rw [List.mem_singleton.1 hq];exact hv
      · rw [List.mem_singleton.1 hq];exact .base
      · intro q hq
        simp only [zQ,zp,Z5,List.mem_singleton]
        by_cases e:q={state:=p.state,own:=p.own}
        · subst e
          simp [List.idxOf_cons,txt]
        · have e2:txt q≠txt p:=fun h=>e (zcn hq hv h)
          rw [if_neg e2,if_neg e]
    · rintro ⟨i,L,M,F⟩ ⟨hi,hle,hinv,hrel,hfst,hmv,hchk⟩
      simp only at hi hle hinv hrel hfst hmv hchk ⊢
      subst hi
      have hlen:=hinv.len
      refine Ret.ite (fun hlt => ?_) (fun hge => ?_)
      · have hlt:=of_decide_eq_true hlt
        have hML:M.length < L.length:=by omega
        have heq:=List.getElem?_eq_getElem hML
        have hme:=List.getElem_mem hML
        have he:=hinv.vs _ hme
        have hr:=hinv.rch _ hme
        generalize L[M.length]=e at heq he hr
        have hmlen:=Y5 hc (party:=party) he
        refine Ret.bind (P:=fun o:XT ⊕ Unit=>(∃ x,o=.inl x∧GotP c party p e L (zB c party e) x)∨(o=.inr ()∧jU c e (zB c party e) (L,[])=none)) ?_ ?_
        · refine Ret.bindE (zJ heq) ?_
          refine Ret.bindE (x:=Vb c party e) (v:=()) rfl ?_
          refine Ret.bind (P:=fun o:XT ⊕ (Unit ⊕ XT)=>(∃ x,o=.inl x∧e.state.day < c.days∧GotP c party p e L (bif e.own then [-2] else []) x)∨(o=.inr (.inl ())∧jU c e (bif e.own then [-2] else []) (L,[])=none)∨(∃ x,o=.inr (.inr x)∧c.days≤e.state.day∧GotP c party p e L (bif e.own then [-2] else []) x)) ?_ ?_
          · have hbase:GotP c party p e L [] (L,F,[]):=⟨rfl,hrel⟩
            cases ho:e.own with
            | false=>
              simp only [cond_false]
              refine Ret.ite (fun hd=>Ret.some (.inr (.inr ⟨_,rfl,of_decide_eq_true hd,hbase⟩))) (fun hd=>Ret.some (.inl ⟨_,rfl,by have:=of_decide_eq_false hd;omega,hbase⟩))
            | true=>
              simp only [cond_true]
              refine Ret.bindE (za5 hc he) ?_
              have hm2:(-2:Int)∈zB c party e:=qd.2 (.inl ⟨ho,rfl⟩)
              refine Wc hc he hr hinv (fun x hx=>by cases hx) hm2 (by simp) (by unfold target;rw [if_pos rfl]) hbase (fun to L' F' hg ha => ?_) (fun hz=>Ret.some (.inr (.inl ⟨rfl,hz⟩)))
              refine Ret.bindE ha ?_
              refine Ret.ite (fun hd=>Ret.some (.inr (.inr ⟨_,rfl,of_decide_eq_true hd,hg⟩))) (fun hd=>Ret.some (.inl ⟨_,rfl,by have:=of_decide_eq_false hd;omega,hg⟩))
          · rintro o (⟨⟨L1,F1,K1⟩,rfl,hd,hg⟩ | ⟨rfl,hn⟩ | ⟨⟨L1,F1,K1⟩,rfl,hd,hg⟩)
            · -- there is time left: the tick
              have hmv0:zB c party e=(bif e.own then [-2] else [-1])++jo c party e c.acts.length:=by
                unfold zB
                rw [decide_eq_false (show ¬ c.days≤e.state.day by omega)]
                cases e.own<;>rfl
              refine Ret.bind (P:=fun o:XT ⊕ Unit=>(∃ x,o=.inl x∧GotP c party p e L (bif e.own then [-2] else [-1]) x)∨(o=.inr ()∧jU c e (bif e.own then [-2] else [-1]) (L,[])=none)) ?_ ?_
              · cases ho:e.own with
                | true=>rw [ho] at hg;exact Ret.some (.inl ⟨_,rfl,hg⟩)
                | false=>
                  rw [ho] at hg
                  simp only [cond_false] at hg ⊢
                  obtain ⟨est,_⟩:=xX (a := -1) hc he (by omega) (by omega) hd
                  refine Ret.bindE est ?_
                  have hm1:(-1:Int)∈zB c party e:=qd.2 (.inr (.inl ⟨hd,ho,rfl⟩))
                  refine Wc hc he hr hinv (fun x hx=>by cases hx) hm1 (by simp) (by unfold target;rw [if_neg (by omega)]) hg (fun to L' F' hg ha => ?_) (fun hz=>Ret.some (.inr ⟨rfl,hz⟩))
                  refine Ret.bindE ha ?_
                  exact Ret.some (.inl ⟨_,rfl,hg⟩)
              · rintro o (⟨⟨L2,F2,K2⟩,rfl,hg2⟩ | ⟨rfl,hn⟩)
                · -- the acts
                  refine Ret.bind (P:=fun o:XT ⊕ XT=>(∃ x,o=.inl x∧GotP c party p e L (zB c party e) x)∨(∃ x,o=.inr x∧jU c e (zB c party e) (L,[])=none)) ?_ ?_
                  · have hsub:∀ i,i≤c.acts.length→∀ x∈(bif e.own then [-2] else [-1])++jo c party e i,x∈zB c party e:=by
                      intro i hi x hx
                      rw [hmv0]
                      obtain ⟨r,hr'⟩:=Vp c party e hi
                      rw [hr']
                      rcases List.mem_append.1 hx with h | h
                      · exact List.mem_append.2 (.inl h)
                      · exact List.mem_append.2 (.inr (List.mem_append.2 (.inl h)))
                    refine Ret.forL (n:=c.acts.length) (fun i s=>GotP c party p e L ((bif e.own then [-2] else [-1])++jo c party e i) s) (by omega) ?_ ?_ (fun s hs=>.inl ⟨s,rfl,by rw [hmv0];exact hs⟩)
                    · show GotP c party p e L ((bif e.own then [-2] else [-1])++jo c party e 0) (L2,F2,K2)
                      have:jo c party e 0=[]:=rfl
                      rw [this,List.append_nil];exact hg2
                    · rintro i ⟨L3,F3,K3⟩ hi hg3
                      simp only
                      have hx:=List.getElem?_eq_getElem hi
                      have av:=zdt hv.cv hx
                      have hmvb:mvB c party e i=(((xz e.state.holders c.acts[i] == party) == e.own) && !yd (qM c e.state i) e.state):=by simp only [mvB,hx]
                      have hlenA:=YZ c party e i
                      refine Ret.bind (P:=fun o:XT ⊕ Unit=>(∃ x,o=.inl x∧GotP c party p e L ((bif e.own then [-2] else [-1])++jo c party e (i+1)) x)∨(o=.inr ()∧jU c e ((bif e.own then [-2] else [-1])++jo c party e (i+1)) (L,[])=none)) ?_ ?_
                      · refine Ret.bindE (zJ hx) ?_
                        refine Ret.bindE (zgz he av) ?_
                        refine Ret.ite (fun hq => ?_) (fun hq => ?_)
                        · obtain ⟨est,hvs,_⟩:=xX (a:=(i:Int)) hc he (by omega) (by omega) hd
                          have hfew:=hvs.few hc
                          refine Ret.bindE est ?_
                          refine Ret.bindE (zh3 (qM c e.state i) e.state (by omega) (by omega) (by omega)) ?_
                          refine Ret.ite (fun hs=>Ret.some (.inl ⟨_,rfl,?_⟩)) (fun hs => ?_)
                          · rw [yX,hmvb,hq,hs]
                            simpa using hg3
                          · have hb:mvB c party e i=true:=by rw [hmvb,hq,hs];rfl
                            have hmi:(i:Int)∈zB c party e:=qd.2 (.inr (.inr ⟨hd,i,hi,hb,rfl⟩))
                            have hact:jo c party e (i+1)=jo c party e i++[(i:Int)]:=by rw [yX,hb];rfl
                            rw [hact,←List.append_assoc]
                            refine Wc hc he hr hinv (hsub i (by omega)) hmi (by cases e.own<;>simp<;>omega) (by unfold target;rw [if_neg (by omega)]) hg3 (fun to L' F' hg ha => ?_) (fun hz=>Ret.some (.inr ⟨rfl,hz⟩))
                            refine Ret.bindE ha ?_
                            exact Ret.some (.inl ⟨_,rfl,hg⟩)
                        · refine Ret.some (.inl ⟨_,rfl,?_⟩)
                          rw [yX,hmvb,hq]
                          simpa using hg3
                      · rintro o (⟨x,rfl,hgx⟩ | ⟨rfl,hn⟩)
                        · exact Ret.some hgx
                        · refine Ret.some (.inr ⟨_,rfl,?_⟩)
                          rw [hmv0]
                          obtain ⟨r,hr'⟩:=Vp c party e (show i+1≤c.acts.length by omega)
                          rw [hr',←List.append_assoc]
                          exact yN hn
                  · rintro o (⟨x,rfl,hgx⟩ | ⟨x,rfl,hn⟩)
                    · exact Ret.some (.inl ⟨_,rfl,hgx⟩)
                    · exact Ret.some (.inr ⟨rfl,hn⟩)
                · refine Ret.some (.inr ⟨rfl,?_⟩)
                  rw [hmv0];exact yN hn
            · refine Ret.some (.inr ⟨rfl,?_⟩)
              unfold zB;exact yN hn
            · refine Ret.some (.inl ⟨_,rfl,?_⟩)
              have:zB c party e=(bif e.own then [-2] else []):=by
                unfold zB
                rw [decide_eq_true hd]
                simp
              rw [this];exact hg
        · rintro o (⟨⟨L',F',K'⟩,rfl,hg⟩ | ⟨rfl,hn⟩)
          · obtain ⟨h1,⟨r1,e1⟩,T,eT,hT,hch⟩:=Wb hc he hr (zB c party e) L L' [] K' (fun m hm=>hm) hinv hg.1
            simp only [List.nil_append] at eT
            subst eT
            simp only [Sum.elim_inl]
            refine Ret.bindE (kg (by simp;omega)) ?_
            rw [qx (by omega) (by omega)]
            refine Ret.some ⟨⟨by simp,?_,h1,hg.2,by show L'[0]?=some p;rw [e1];exact Xp hfst,?_,?_⟩,?_⟩
            · show (M++[K']).length≤L'.length
              rw [e1];simp;omega
            · show ∀ (j:Nat) (T:List MoveT) (e:PosT),(M++[K'])[j]?=some T→L'[j]?=some e→MvOk c party L' e (zB c party e) T
              intro j T e' hj he'
              by_cases hjm:j < M.length
              · rw [List.getElem?_append_left hjm] at hj
                have hjL:L[j]?=some e':=by
                  rw [e1,List.getElem?_append_left (by omega)] at he';exact he'
                rw [e1]
                exact (hmv j T e' hj hjL).app r1
              · have hj2:j=M.length:=by
                  have:=(List.getElem?_eq_some_iff.1 hj).1
                  simp at this;omega
                subst hj2
                rw [List.getElem?_append_right (Nat.le_refl _)] at hj
                simp at hj
                subst hj
                have:L'[M.length]?=some e:=by rw [e1];exact Xp heq
                rw [this] at he';cases he'
                exact hT
            · show yJ 0 1 (M++[K'])=some L'.length
              rw [XI,hchk]
              simp only [Option.bind_some,Nat.zero_add]
              rw [if_pos hML];exact hch
            · show (1501 - ((M.length:Int)+1)).toNat < (1501 - (M.length:Int)).toNat
              omega
          · obtain ⟨L1,h1,h2⟩:=Y4 hc he hr (zB c party e) L [] (fun m hm=>hm) hinv hn
            exact Ret.some (.inr ⟨rfl,L1,h1,h2⟩)
      · have hge:=of_decide_eq_false hge
        exact Ret.some (.inl ⟨L,M,rfl,hinv,hfst,by omega,hmv,hchk⟩)
    · rintro o (⟨L,M,rfl,h⟩ | ⟨rfl,h⟩)
      · exact Ret.some (.inl ⟨L,M,rfl,h⟩)
      · exact Ret.some (.inr ⟨rfl,h⟩)
  · rintro o (⟨L,M,rfl,h⟩ | ⟨rfl,h⟩)
    · exact Ret.some (.inl ⟨rfl,rfl,h⟩)
    · exact Ret.some (.inr ⟨rfl,h⟩)
theorem kW {α:Type} [BEq α] [LawfulBEq α]:∀ {L1 L2:List α},L1.Nodup→(∀ x∈L1,x∈L2)→L1.length≤L2.length
  | [],L2,_,_=>by simp
  | a::l,L2,h,hs=>by
    obtain ⟨ha,hl⟩:=List.nodup_cons.1 h
    have hm:=hs a List.mem_cons_self
    have ih:=kW (L1:=l) (L2:=L2.erase a) hl fun x hx=>(List.mem_erase_of_ne (by rintro rfl;exact ha hx)).2 (hs x (List.mem_cons_of_mem _ hx))
    rw [List.length_erase_of_mem hm] at ih
    have:0 < L2.length:=List.length_pos_of_mem hm
    simp only [List.length_cons];omega
theorem FromOk.closed {c:ContractT} {party:Int} {p:PosT} {L:List PosT} {M:List (List MoveT)} (F:FromOk c party p L M) {q:PosT} (hq:q∈L) {m:Int} (hm:m∈zB c party q):target c q m∈L:=by
  obtain ⟨j,hj,e⟩:=List.getElem_of_mem hq
  have hjM:j < M.length:=by rw [F.len];exact hj
  have h:=F.mv j M[j] q (List.getElem?_eq_getElem hjM) (by rw [List.getElem?_eq_getElem hj,e])
  rw [←h.1] at hm
  obtain ⟨t,ht,rfl⟩:=List.mem_map.1 hm
  exact List.mem_of_getElem? (h.2 t ht).2
theorem FromOk.rch {c:ContractT} {party:Int} {p:PosT} {L:List PosT} {M:List (List MoveT)} (F:FromOk c party p L M) {q x:PosT} (hq:q∈L) (h:Rch c party q x):x∈L:=by
  induction h with
  | base=>exact hq
  | step _ hm ih=>exact F.closed ih hm
section
def at_ (l:List Int) (i:Nat):Int:=l[i]?.getD 0
theorem vg {l:List Int} {i:Nat} (h:i < l.length):l[i]?=some (at_ l i):=by unfold at_;rw [List.getElem?_eq_getElem h];rfl
theorem kX {l:List Int} {i:Nat} (h:i < l.length) (x:Int):at_ (l.set i x)=upd (at_ l) i x:=by
  funext j
  unfold at_ upd
  by_cases e:j=i
  · subst e;rw [if_pos rfl,List.getElem?_set_self h];rfl
  · rw [if_neg e,List.getElem?_set_ne (Ne.symm e)]
def cst (l:List Nat):List Int:=l.map fun x:Nat=>(x:Int)
theorem kn (l:List Nat):(cst l).length=l.length:=List.length_map _
theorem Xq (l m:List Nat):cst (l++m)=cst l++cst m:=List.map_append
def V2 (c:ContractT) (party:Int) (marks:List MarkT) (i:Nat):Bool:=match c.clauses[i]?,marks[i]? with
  | some k,some m=>k.final&&((m.status == 4)&&(m.bearer == party))
  | _,_=>false
def qG (c:ContractT) (s:StateT) (party:Int):Bool := !((List.range s.marks.length).all fun i=>!V2 c party s.marks i)
theorem zfm (c:ContractT) (s:StateT) (party:Int) (hl:s.marks.length=c.clauses.length) (hs:s.marks.length < 4611686018427387904) :
    (forR (σ:=Unit) (ρ:=Unit) (s.marks.length:Int) (fun i1 s1=>(Option.bind (ze s.marks (i1:Int)) fun e1=>(Option.bind (Option.bind (ze c.clauses (i1:Int)) fun e2=>(bif e2.final then (bif (e1.status == 4) then some (e1.bearer == party) else some false) else some false)) fun v1=>(bif v1 then some (.inr ()) else some (.inl ()))))) ()) =
      some (bif qG c s party then .inr () else .inl ()):=by
  rw [Zs (fun i=>!V2 c party s.marks i) hs (fun j hj=>by
    have hk:j < c.clauses.length:=by omega
    simp only [zO,List.getElem?_eq_getElem hj,List.getElem?_eq_getElem hk,Option.bind_some,V2]
    cases (c.clauses[j].final)<;>cases (s.marks[j].status == 4)<;>cases (s.marks[j].bearer == party)<;>rfl)]
  unfold qG
  cases ((List.range s.marks.length).all fun i=>!V2 c party s.marks i)<;>rfl
theorem zjP {c:ContractT} (hc:c.Ok) {s:StateT} (hv:VS c s) (party:Int):Jz c s party=some (qG c s party):=by
  have:=(hv.few hc).2.2
  unfold Jz
  rw [zfm c s party hv.lm (by omega)]
  cases qG c s party<;>rfl
def gm (c:ContractT) (a:ArenaT):Gm where
  n:=a.positions.length
  own i:=match a.positions[i]? with | some q=>q.own | none=>false
  lost i:=match a.positions[i]? with | some q=>qG c q.state a.party | none=>false
  succ i:=match a.moves[i]? with | some T=>T.map fun m=>m.to.toNat | none=>[]
structure ArOk (c:ContractT) (party:Int) (p:PosT) (a:ArenaT):Prop where
  p0:0≤party
  p1:party < c.parties
  pa:a.party=party
  F:FromOk c party p a.positions a.moves
section
variable {c:ContractT} {party:Int} {p:PosT} {a:ArenaT}
theorem ArOk.mv (A:ArOk c party p a) {i:Nat} (hi:i < a.positions.length):∃ T,a.moves[i]?=some T∧MvOk c party a.positions a.positions[i] (zB c party a.positions[i]) T:=by
  have h:i < a.moves.length:=by rw [A.F.len];exact hi
  exact ⟨a.moves[i],List.getElem?_eq_getElem h,A.F.mv i _ _ (List.getElem?_eq_getElem h) (List.getElem?_eq_getElem hi)⟩
theorem ArOk.succ (A:ArOk c party p a) {i:Nat} (hi:i < a.positions.length) {T:List MoveT} (hT:a.moves[i]?=some T):(gm c a).succ i=T.map fun m=>m.to.toNat:=by
  simp only [gm,hT]
theorem ArOk.to (A:ArOk c party p a) {i:Nat} (hi:i < a.positions.length) {T:List MoveT} (hT:a.moves[i]?=some T) {m:MoveT} (hm:m∈T):0≤m.to∧m.to < a.positions.length:=by
  obtain ⟨T',h1,_,h3⟩:=A.mv hi
  rw [hT] at h1;cases h1
  obtain ⟨h4,h5⟩:=h3 m hm
  have:=(List.getElem?_eq_some_iff.1 h5).1
  omega
theorem ArOk.len (hc:c.Ok) (A:ArOk c party p a) {i:Nat} (hi:i < a.positions.length) {T:List MoveT} (hT:a.moves[i]?=some T):T.length≤62:=by
  obtain ⟨T',h1,h2,_⟩:=A.mv hi
  rw [hT] at h1;cases h1
  have:=Y5 hc (party:=party) (A.F.inv.vs _ (List.getElem_mem hi))
  rw [←List.length_map (f:=fun x:MoveT=>x.step),h2];exact this
theorem ArOk.closed (A:ArOk c party p a):∀ i,i < (gm c a).n→∀ t∈(gm c a).succ i,t < (gm c a).n:=fun i hi t ht=>by
  obtain ⟨T,h1,_⟩:=A.mv hi
  rw [A.succ hi h1] at ht
  obtain ⟨m,hm,rfl⟩:=List.mem_map.1 ht
  have:=A.to hi h1 hm
  show m.to.toNat < a.positions.length
  omega
theorem ArOk.slen (hc:c.Ok) (A:ArOk c party p a) (i:Nat) (hi:i < (gm c a).n):((gm c a).succ i).length≤62:=by
  obtain ⟨T,h1,_⟩:=A.mv hi
  rw [A.succ hi h1,List.length_map];exact A.len hc hi h1
theorem zbg (hc:c.Ok) (A:ArOk c party p a):xI c a=some true:=by
  have h0:=A.p0
  have h1:=A.p1
  have hlen:=A.F.inv.len
  refine Ret.eq ?_
  unfold xI
  rw [A.pa]
  refine Ret.bindE (v:=false) (by rw [decide_eq_false (show ¬ party < 0 by omega),decide_eq_false (show ¬ c.parties≤party by omega),A.F.len];simp) ?_
  refine Ret.ite (fun h=>by cases h) (fun _ => ?_)
  refine Ret.bind (P:=fun o:Unit ⊕ Unit=>o=.inl ()) (Ret.forL (fun _ _=>True) (by omega) trivial (fun i s hi _ => ?_) (fun _ _=>rfl)) ?_
  · obtain ⟨T,hT,hM⟩:=A.mv hi
    have hTl:=A.len hc hi hT
    refine Ret.bindE (zJ (List.getElem?_eq_getElem hi)) ?_
    refine Ret.bindE (zJ hT) ?_
    refine Ret.bind (P:=fun o:Unit ⊕ Unit=>o=.inl ()) (Ret.forL (fun _ _=>True) (by omega) trivial (fun k s hk _ => ?_) (fun _ _=>rfl)) ?_
    · have:=A.to hi hT (List.getElem_mem hk)
      refine Ret.bindE (zJ (List.getElem?_eq_getElem hk)) ?_
      refine Ret.bindE (v:=false) (by rw [decide_eq_false (show ¬ T[k].to < 0 by omega),decide_eq_false (show ¬ (a.positions.length:Int)≤T[k].to by omega)];rfl) ?_
      exact Ret.some trivial
    · rintro _ rfl
      refine Ret.bindE (by rw [vF c _ hc,JI (A.F.inv.vs _ (List.getElem_mem hi))]) ?_
      exact Ret.some trivial
  · rintro _ rfl
    exact Ret.some rfl
structure L1 (G:Gm) (i k:Nat) (bef:List (List Int)):Prop where
  len:bef.length=G.n
  row:∀ t,t < G.n→∃ l:List Nat,bef[t]?=some (cst l)∧l.length≤62*i+k∧∀ x,l.count x=if x < i then (G.succ x).count t else if x=i then ((G.succ i).take k).count t else 0
theorem L1.next {G:Gm} {i k:Nat} {bef:List (List Int)} (h:L1 G i k bef) (hk:k=(G.succ i).length) (hl:k≤62):L1 G (i+1) 0 bef:=by
  refine ⟨h.len,fun t ht => ?_⟩
  obtain ⟨l,h1,h2,h3⟩:=h.row t ht
  refine ⟨l,h1,by omega,fun x => ?_⟩
  rw [h3 x]
  by_cases e:x < i
  · rw [if_pos e,if_pos (by omega)]
  · rw [if_neg e]
    by_cases e2:x=i
    · subst e2;rw [if_pos rfl,if_pos (by omega),hk,List.take_length]
    · rw [if_neg e2,if_neg (by omega)]
      split<;>simp
theorem L1.step {G:Gm} {i k:Nat} {bef:List (List Int)} (h:L1 G i k bef) (hn:G.n≤1500) (hi:i < G.n) (hk:k≤62) {to:Nat} (ht:(G.succ i)[k]?=some to) (hto:to < G.n):Ret (wG bef G.n (to:Int) (i:Int)) (L1 G i (k+1)):=by
  obtain ⟨l,h1,h2,h3⟩:=h.row to hto
  have e:wG bef G.n (to:Int) (i:Int)=some (bef.set to (cst (l++[i]))):=by
    unfold wG
    rw [if_pos ⟨by omega,by omega,by omega⟩,Int.toNat_natCast,h1]
    simp only
    rw [if_pos (by rw [kn];omega),Xq];rfl
  refine ⟨_,e,by rw [List.length_set];exact h.len,fun t ht2 => ?_⟩
  have htk:(G.succ i).take (k+1)=(G.succ i).take k++[to]:=by
    obtain ⟨h5,h6⟩:=List.getElem?_eq_some_iff.1 ht
    rw [List.take_succ_eq_append_getElem h5,h6]
  by_cases e2:t=to
  · subst e2
    refine ⟨l++[i],List.getElem?_set_self (by rw [h.len];exact ht2),by simp;omega,fun x => ?_⟩
    rw [List.count_append,h3 x,htk,List.count_append]
    by_cases a1:x < i
    · rw [if_pos a1,if_pos a1,List.count_cons_of_ne (by omega)];simp
    · rw [if_neg a1,if_neg a1]
      by_cases a2:x=i
      · subst a2;rw [if_pos rfl,if_pos rfl];simp
      · rw [if_neg a2,if_neg a2,List.count_cons_of_ne (fun h=>a2 h.symm)];simp
  · obtain ⟨l2,b1,b2,b3⟩:=h.row t ht2
    refine ⟨l2,by rw [List.getElem?_set_ne (Ne.symm e2)];exact b1,by omega,fun x => ?_⟩
    rw [b3 x,htk,List.count_append,List.count_cons_of_ne (Ne.symm e2)];simp
structure L2 (G:Gm) (i:Nat) (s:List Int×List Int×List (List Int)×List Int):Prop where
  lr:s.1.length=G.n
  lo:s.2.1.length=G.n
  bef:L1 G i 0 s.2.2.1
  r:∀ j,j < i→at_ s.1 j=if G.lost j=true then 0 else -1
  o:∀ j,j < i→at_ s.2.1 j=((G.succ j).length:Int)
  k:s.2.2.2=cst ((List.range i).filter G.lost)
theorem Xr {b n:Nat} (h:n≤1500) (hb:b≤1000):mkN b (n:Int)=some n:=by
  unfold mkN
  have:n*b≤1500*1000:=Nat.mul_le_mul h hb
  rw [if_pos ⟨by omega,by omega,by push_cast;omega⟩,Int.toNat_natCast]
end
end
section
section
variable {c:ContractT} {party:Int} {p:PosT} {a:ArenaT}
theorem zbh {x:Int} {l:List Int} (nx:Int) (h:l.length≤4000):yA x l nx=some (l++[x]):=by
  unfold yA
  rw [kg (by simp;omega)];rfl
theorem Vq {x:Nat} {v:Int} {r l:List Int} {n:Nat} (nx:Int) (hx:x < n) (hr:r.length=n) (h:l.length≤4000):yB (x:Int) v r n l nx=some (l++[(x:Int)],r.set x v):=by
  unfold yB
  rw [zL hx]
  simp only [Option.bind_some]
  rw [vg (by omega),zbh nx h];rfl
def Bnd (G:Gm) (r:Nat→Int) (m:Nat):Prop:=∀ i,i < G.n→r i≤m
theorem zgL (hc:c.Ok) (A:ArOk c party p a) {r o:List Int} {P Q:List Nat} {u x:Nat} {cn:Nat→Nat} (nx:Int) (hr:r.length=(gm c a).n) (ho:o.length=(gm c a).n)
    (h:EInv (gm c a) (at_ r) (at_ o) P u Q cn) (hb:Bnd (gm c a) (at_ r) (P++u::Q).length) (hx:x < (gm c a).n) (hcn:cn x < ((gm c a).succ x).count u) :
    Ret (ZX (x:Int) (u:Int) o (gm c a).n r (gm c a).n a (cst (P++u::Q)) nx) (fun z=>z.1.length=(gm c a).n∧z.2.1.length=(gm c a).n∧∃ Q',z.2.2=cst (P++u::Q')∧EInv (gm c a) (at_ z.2.1) (at_ z.1) P u Q' (upd cn x (cn x+1))∧Bnd (gm c a) (at_ z.2.1) (P++u::Q').length):=by
  have hn:(gm c a).n≤1500:=A.F.inv.len
  have hroom:=h.room hx hcn
  have hop:=h.core.op x hx
  have hsl:=A.slen hc x hx
  have hcp:(((gm c a).succ x).countP (vt P))≤((gm c a).succ x).length:=List.countP_le_length
  have hKn:(P++u::Q).length≤(gm c a).n:=by
    have:=kW (L2:=List.range (gm c a).n) h.core.nd (fun y hy=>List.mem_range.2 (h.core.lt y hy))
    rwa [List.length_range] at this
  obtain ⟨hu,hun,hru,_,_⟩:=h.core.split
  have hgu:=h.core.ge u hun
  have hgx:=h.core.ge x hx
  have hbu:=hb u hun
  have hw1:IntKind.i64.wrap (at_ o x - 1)=at_ o x - 1:=qx (by omega) (by omega)
  have hw2:IntKind.i64.wrap (at_ r u+1)=at_ r u+1:=qx (by omega) (by omega)
  have hso:at_ (o.set x (at_ o x - 1))=upd (at_ o) x (at_ o x - 1):=kX (by omega) _
  have hget:(o.set x (at_ o x - 1))[x]?=some (at_ o x - 1):=List.getElem?_set_self (by omega)
  have hown:(gm c a).own x=(a.positions[x]'(hx)).own:=by
    show (match a.positions[x]? with | some q=>q.own | none=>false)=_
    rw [List.getElem?_eq_getElem (show x < a.positions.length from hx)]
    rfl
  have hidx:ze a.positions (x:Int)=some (a.positions[x]'hx):=zJ (List.getElem?_eq_getElem (show x < a.positions.length from hx))
  unfold ZX
  refine Ret.bindE (zL hx) ?_
  refine Ret.bindE (vg (by omega)) ?_
  rw [hw1]
  by_cases e1:at_ r x = -1
  · have e1b:(at_ r x == -1)=true:=by rw [e1];rfl
    by_cases e2:(gm c a).own x=false∨at_ o x - 1=0
    · refine Ret.bindE (v:=true) ?_ ?_
      · rw [zL hx]
        simp only [Option.bind_some]
        rw [vg (by omega:x < r.length)]
        simp only [Option.bind_some,e1b,cond_true,hidx]
        rw [←hown]
        rcases e2 with e2 | e2
        · rw [e2];rfl
        · rw [hget]
          simp only [Option.bind_some,e2]
          cases (gm c a).own x<;>rfl
      · refine Ret.ite (fun _ => ?_) (fun h=>by cases h)
        refine Ret.bindE (zL hun) ?_
        refine Ret.bindE (vg (by omega)) ?_
        rw [hw2]
        refine Ret.bindE (Vq nx hx hr (by rw [kn];omega)) ?_
        refine Ret.some ⟨by simp [ho],by simp [hr],Q++[x],?_,?_,?_⟩
        · rw [show P++u::(Q++[x])=(P++u::Q)++[x] by simp];exact (Xq (P++u::Q) [x]).symm
        · rw [hso,kX (by omega)]
          exact h.settle A.closed hx hcn e1 e2
        · intro i hi
          simp only
          rw [kX (by omega)]
          have:=hb i hi
          unfold upd
          simp only [List.length_append,List.length_cons,List.length_nil] at this hbu ⊢
          split<;>omega
    · refine Ret.bindE (v:=false) ?_ ?_
      · rw [zL hx]
        simp only [Option.bind_some]
        rw [vg (by omega:x < r.length)]
        simp only [Option.bind_some,e1b,cond_true,hidx]
        rw [←hown]
        have e3:(gm c a).own x=true:=by
          cases hq:(gm c a).own x with
          | true=>rfl
          | false=>exact absurd (.inl hq) e2
        rw [e3,hget]
        simp only [Option.bind_some,cond_true]
        rw [beq_eq_false_iff_ne.2 (fun h=>e2 (.inr h))]
      · refine Ret.ite (fun h=>by cases h) (fun _ => ?_)
        refine Ret.some ⟨by simp [ho],hr,Q,rfl,?_,hb⟩
        rw [hso]
        exact h.skip hx hcn (.inr ⟨by cases hq:(gm c a).own x with
          | true=>rfl
          | false=>exact absurd (.inl hq) e2,fun h=>e2 (.inr h)⟩)
  · have e1b:(at_ r x == -1)=false:=beq_eq_false_iff_ne.2 e1
    refine Ret.bindE (v:=false) ?_ ?_
    · rw [zL hx]
      simp only [Option.bind_some]
      rw [vg (by omega:x < r.length)]
      simp only [Option.bind_some,e1b,cond_false]
    · refine Ret.ite (fun h=>by cases h) (fun _ => ?_)
      refine Ret.some ⟨by simp [ho],hr,Q,rfl,?_,hb⟩
      rw [hso]
      exact h.skip hx hcn (.inl e1)
theorem zh8 {l:List Nat} {k:Nat} (hl:l.length≤4000) (hk:k≤l.length):wi (cst l) (k:Int)=some (match l[k]? with | some u=>((u:Int),true,(k:Int)+1) | none=>(0,false,(k:Int))):=by
  unfold wi
  rw [kn]
  by_cases e:k=l.length
  · rw [e,List.getElem?_eq_none (Nat.le_refl _)];simp
  · have h:k < l.length:=by omega
    have w1:IntKind.i64.wrap ((k:Int)+1)=(k:Int)+1:=qx (by omega) (by omega)
    have w2:IntKind.i64.wrap ((k:Int)+1 - 1)=(k:Int):=by rw [show (k:Int)+1 - 1=(k:Int) by omega];exact qx (by omega) (by omega)
    rw [beq_eq_false_iff_ne.2 (show (k:Int)≠(l.length:Int) by omega),w1,w2,List.getElem?_eq_getElem h]
    simp only [cond_false]
    rw [zJ (l:=cst l) (i:=k) (e:=(l[k]:Int)) (by unfold cst;rw [List.getElem?_map,List.getElem?_eq_getElem h];rfl)]
    rfl
end
end
section
section
variable {c:ContractT} {party:Int} {p:PosT} {a:ArenaT}
def xu (G:Gm) (i:Nat):Bool:=G.own i&&(!(G.lost i)&&(G.succ i).isEmpty)
def r2 (G:Gm) (i j:Nat):Int:=if G.lost j=true then 0 else if xu G j=true∧j < i then 1 else -1
def K2 (G:Gm) (i:Nat):List Nat:=(List.range G.n).filter G.lost++(List.range i).filter (xu G)
structure L3 (G:Gm) (i:Nat) (s:List Int×List Int):Prop where
  lr:s.1.length=G.n
  r:∀ j,j < G.n→at_ s.1 j=r2 G i j
  k:s.2=cst (K2 G i)
theorem zjQ (G:Gm) (i:Nat):(K2 G i).length≤G.n+i:=by
  unfold K2
  rw [List.length_append]
  have h1:=List.length_filter_le G.lost (List.range G.n)
  have h2:=List.length_filter_le (xu G) (List.range i)
  rw [List.length_range] at h1 h2
  omega
theorem zfn {G:Gm} {r o:Nat→Int} (hr:∀ j,j < G.n→r j=r2 G G.n j) (ho:∀ j,j < G.n→o j=((G.succ j).length:Int)):BInv G r o [] (K2 G G.n)∧Bnd G r (K2 G G.n).length:=by
  have tl:∀ j,xu G j=true→G.own j=true∧G.lost j=false∧G.succ j=[]:=fun j h=>by
    simpa [xu,Bool.and_eq_true,List.isEmpty_iff] using h
  have rl:∀ j,j < G.n→G.lost j=true→r j=0:=fun j hj h=>by rw [hr j hj];unfold r2;rw [if_pos h]
  have rt:∀ j,j < G.n→xu G j=true→r j=1:=fun j hj h=>by
    rw [hr j hj];unfold r2;rw [if_neg (by rw [(tl j h).2.1];simp),if_pos ⟨h,hj⟩]
  have rn:∀ j,j < G.n→G.lost j=false→xu G j=false→r j = -1:=fun j hj h h2=>by
    rw [hr j hj];unfold r2;rw [if_neg (by rw [h];simp),if_neg (by rw [h2];simp)]
  have three:∀ j,j < G.n→(G.lost j=true∧r j=0)∨(xu G j=true∧G.lost j=false∧r j=1)∨(G.lost j=false∧xu G j=false∧r j = -1):=fun j hj=>by
    cases h:G.lost j with
    | true=>exact .inl ⟨rfl,rl j hj h⟩
    | false=>cases h2:xu G j with
      | true=>exact .inr (.inl ⟨rfl,rfl,rt j hj h2⟩)
      | false=>exact .inr (.inr ⟨rfl,rfl,rn j hj h h2⟩)
  have hm:∀ j,j∈K2 G G.n↔j < G.n∧(G.lost j=true∨xu G j=true):=fun j=>by
    unfold K2
    rw [List.mem_append,List.mem_filter,List.mem_filter,List.mem_range]
    constructor
    · rintro (⟨h1,h2⟩ | ⟨h1,h2⟩)
      · exact ⟨h1,.inl h2⟩
      · exact ⟨h1,.inr h2⟩
    · rintro ⟨h1,h2 | h2⟩
      · exact .inl ⟨h1,h2⟩
      · exact .inr ⟨h1,h2⟩
  have hle:∀ x∈K2 G G.n,r x≤1∧0≤r x:=fun x hx=>by
    obtain ⟨h1,h2⟩:=(hm x).1 hx
    rcases three x h1 with ⟨_,h⟩ | ⟨_,_,h⟩ | ⟨h3,h4,h⟩
    · omega
    · omega
    · rw [h3,h4] at h2;simp at h2
  refine ⟨⟨⟨?_,fun x hx=>((hm x).1 hx).1,fun i hi => ?_,fun i hi => ?_,?_,fun i hi => ?_,fun i hi => ?_,fun i hi h1 h2 h3 => ?_,fun i hi h1 h2 h3 => ?_,fun i hi h1 h2 h3 => ?_,fun i hi h1 h2 h3=>⟨fun t ht h=>(by cases h),rfl⟩⟩,fun q Q' hq x hx => ?_⟩,fun i hi => ?_⟩
  · rw [List.nil_append]
    unfold K2
    refine List.nodup_append.2 ⟨List.nodup_range.sublist List.filter_sublist,List.nodup_range.sublist List.filter_sublist,fun x hx y hy e => ?_⟩
    subst e
    have h1:=(List.mem_filter.1 hx).2
    have h2:=(tl x (List.mem_filter.1 hy).2).2.1
    rw [h1] at h2;cases h2
  · rw [List.nil_append,hm i]
    rcases three i hi with ⟨h1,h⟩ | ⟨h1,_,h⟩ | ⟨h3,h4,h⟩
    · rw [h];simp [hi,h1]
    · rw [h];simp [hi,h1]
    · rw [h];simp [h3,h4]
  · rcases three i hi with ⟨_,h⟩ | ⟨_,_,h⟩ | ⟨_,_,h⟩<;>omega
  · rw [List.nil_append]
    unfold K2
    refine List.pairwise_append.2 ⟨?_,?_,fun x hx y hy => ?_⟩
    · refine List.pairwise_of_forall_mem_list fun x hx y hy => ?_
      have h1:=(List.mem_filter.1 hx);have h2:=(List.mem_filter.1 hy)
      rw [rl x (List.mem_range.1 h1.1) h1.2,rl y (List.mem_range.1 h2.1) h2.2];omega
    · refine List.pairwise_of_forall_mem_list fun x hx y hy => ?_
      have h1:=(List.mem_filter.1 hx);have h2:=(List.mem_filter.1 hy)
      rw [rt x (List.mem_range.1 h1.1) h1.2,rt y (List.mem_range.1 h2.1) h2.2];omega
    · have h1:=(List.mem_filter.1 hx);have h2:=(List.mem_filter.1 hy)
      rw [rl x (List.mem_range.1 h1.1) h1.2,rt y (List.mem_range.1 h2.1) h2.2];omega
  · rw [ho i hi]
    have:(G.succ i).countP (vt [])=(G.succ i).length:=List.countP_eq_length.2 fun x _=>by simp [vt]
    rw [this];simp
  · rcases three i hi with ⟨h1,h⟩ | ⟨_,h1,h⟩ | ⟨h1,_,h⟩<;>rw [h,h1]<;>simp
  · rcases three i hi with ⟨h4,h⟩ | ⟨h4,_,h⟩ | ⟨_,_,h⟩
    · rw [h2] at h4;cases h4
    · have h5:=(tl i h4).2.2
      rw [ho i hi,h5,h]
      exact ⟨rfl,fun t ht=>(by cases ht),.inl ⟨rfl,rfl⟩⟩
    · exact absurd h h3
  · rw [ho i hi]
    intro h5
    have h6:G.succ i=[]:=List.eq_nil_of_length_eq_zero (by omega)
    have h7:=rt i hi (by simp [xu,h1,h2,h6])
    omega
  · rcases three i hi with ⟨h4,h⟩ | ⟨h4,_,h⟩ | ⟨_,_,h⟩
    · rw [h2] at h4;cases h4
    · have h5:=(tl i h4).1;rw [h1] at h5;cases h5
    · exact absurd h h3
  · rw [List.nil_append] at hx
    have h1:=(hle x hx).1
    have h2:=(hle q (by rw [hq];simp)).2
    omega
  · rcases three i hi with ⟨_,h⟩ | ⟨h1,_,h⟩ | ⟨_,_,h⟩
    · omega
    · have:0 < (K2 G G.n).length:=List.length_pos_of_mem ((hm i).2 ⟨hi,.inr h1⟩)
      omega
    · omega
structure QI (G:Gm) (bef:List (List Int)) (s:Int×Bool×List Int×List Int×List Int×Int):Prop where
  lr:s.2.2.1.length=G.n
  lo:s.2.2.2.1.length=G.n
  inv:∃ P Q,BInv G (at_ s.2.2.1) (at_ s.2.2.2.1) P Q∧Bnd G (at_ s.2.2.1) (P++Q).length∧s.2.2.2.2.1=cst (P++Q)∧((s.2.1=false∧Q=[]∧s.2.2.2.2.2=(P.length:Int))∨(s.2.1=true∧∃ u Q',Q=u::Q'∧s.1=(u:Int)∧s.2.2.2.2.2=(P.length:Int)+1))
theorem Vr {l:List Nat} {k:Nat} (hk:k < l.length) (x:Nat):(l.take (k+1)).count x=upd (fun y=>(l.take k).count y) l[k] ((l.take k).count l[k]+1) x:=by
  rw [List.take_succ_eq_append_getElem hk,List.count_append]
  unfold upd
  by_cases e:x=l[k]
  · rw [if_pos e,e];simp
  · rw [if_neg e,List.count_cons_of_ne (fun h=>e h.symm)];simp
theorem zfo {l:List Nat} {k:Nat} (hk:k < l.length):(fun y=>(l.take (k+1)).count y)=upd (fun y=>(l.take k).count y) l[k] ((l.take k).count l[k]+1):=funext fun x=>Vr hk x
theorem zfp {G:Gm} {bef:List (List Int)} {P Q:List Nat} {r o:List Int} (hn:G.n≤1500) (hr:r.length=G.n) (ho:o.length=G.n) (h:BInv G (at_ r) (at_ o) P Q) (hb:Bnd G (at_ r) (P++Q).length) :
    ∃ z:Int×Bool×Int,wi (cst (P++Q)) (P.length:Int)=some z∧QI G bef (z.1,z.2.1,r,o,cst (P++Q),z.2.2)∧((z.2.1=false∧z.2.2=(P.length:Int))∨(z.2.1=true∧z.2.2=(P.length:Int)+1))∧P.length≤G.n:=by
  have hK:(P++Q).length≤G.n:=by
    have:=kW (L2:=List.range G.n) h.core.nd (fun y hy=>List.mem_range.2 (h.core.lt y hy))
    rwa [List.length_range] at this
  refine ⟨_,zh8 (by omega) (by simp),?_⟩
  cases Q with
  | nil=>
    rw [List.append_nil,List.getElem?_eq_none (Nat.le_refl _)]
    exact ⟨⟨hr,ho,P,[],h,hb,by rw [List.append_nil],.inl ⟨rfl,rfl,rfl⟩⟩,.inl ⟨rfl,rfl⟩,by simpa using hK⟩
  | cons u Q'=>
    rw [List.getElem?_append_right (Nat.le_refl _),Nat.sub_self]
    exact ⟨⟨hr,ho,P,u::Q',h,hb,rfl,.inr ⟨rfl,u,Q',rfl,rfl,rfl⟩⟩,.inr ⟨rfl,rfl⟩,by rw [List.length_append] at hK;omega⟩
theorem zfq (hc:c.Ok) (A:ArOk c party p a):Ret (ki c a) (fun r=>r.length=a.positions.length∧Jv (gm c a) (at_ r)∧∀ i,i < a.positions.length→at_ r i≤1500):=by
  have hn:a.positions.length≤1500:=A.F.inv.len
  have hgn:(gm c a).n=a.positions.length:=rfl
  unfold ki
  refine Ret.bindE (zbg hc A) ?_
  refine Ret.ite (fun _ => ?_) (fun h=>by cases h)
  refine Ret.bindE (Xr hn (by omega)) ?_
  refine Ret.bindE (Xr hn (by omega)) ?_
  refine Ret.bindE (Xr hn (by omega)) ?_
  refine Ret.bind (P:=fun o:(List Int×List Int×List (List Int)×List Int) ⊕ Unit=>∃ s,o=.inl s∧L2 (gm c a) a.positions.length s) (Ret.forL (L2 (gm c a)) (by omega) ?_ (fun i s hi hs => ?_) (fun s h=>⟨s,rfl,h⟩)) ?_
  · refine ⟨by simp [hgn],by simp [hgn],⟨by simp [hgn],fun t ht=>⟨[],?_,by simp,fun x => ?_⟩⟩,fun j hj=>by omega,fun j hj=>by omega,rfl⟩
    · rw [List.getElem?_replicate,if_pos (by rw [←hgn];exact ht)];rfl
    · simp
  · obtain ⟨R,O,B,K⟩:=s
    obtain ⟨hlr,hlo,hbef,hr,ho,hk⟩:=hs
    simp only at hlr hlo hbef hr ho hk ⊢
    obtain ⟨T,hT,hM⟩:=A.mv hi
    have hTl:=A.len hc hi hT
    have hsucc:=A.succ hi hT
    have hlostE:(gm c a).lost i=qG c a.positions[i].state a.party:=by
      show (match a.positions[i]? with | some q=>qG c q.state a.party | none=>false)=_
      rw [List.getElem?_eq_getElem hi]
    refine Ret.bind (P:=fun v=>L2 (gm c a) (i+1) v) ?_ (fun v hv=>Ret.some hv)
    refine Ret.bindE (zJ (List.getElem?_eq_getElem hi)) ?_
    refine Ret.bindE (zJ hT) ?_
    refine Ret.bindE (zL hi) ?_
    refine Ret.bindE (vg (by omega)) ?_
    refine Ret.bindE (zL hi) ?_
    refine Ret.bindE (vg (by omega)) ?_
    refine Ret.bindE (zJ hT) ?_
    refine Ret.bind (P:=fun o:List (List Int) ⊕ Unit=>∃ b,o=.inl b∧L1 (gm c a) i T.length b) (Ret.forL (fun k b=>L1 (gm c a) i k b) (by omega) hbef (fun k b hk2 hb => ?_) (fun b h=>⟨b,rfl,h⟩)) ?_
    · have hto:=A.to hi hT (List.getElem_mem hk2)
      refine Ret.bindE (zJ (List.getElem?_eq_getElem hk2)) ?_
      have h1:(gm c a).succ i=T.map fun m=>m.to.toNat:=hsucc
      have h2:=hb.step (G:=gm c a) hn hi (by omega) (to:=T[k].to.toNat) (by rw [h1,List.getElem?_map,List.getElem?_eq_getElem hk2];rfl) (by rw [hgn];omega)
      rw [Int.toNat_of_nonneg hto.1] at h2
      exact Ret.bind h2 (fun v hv=>Ret.some hv)
    · rintro _ ⟨b,rfl,hb⟩
      simp only [Sum.elim_inl]
      have hb':=hb.next (by rw [hsucc,List.length_map]) hTl
      have hR1:at_ (R.set i (-1))=upd (at_ R) i (-1):=kX (by omega) _
      have hO1:at_ (O.set i (T.length:Int))=upd (at_ O) i (T.length:Int):=kX (by omega) _
      have hoo:∀ j,j < i+1→upd (at_ O) i (T.length:Int) j=(((gm c a).succ j).length:Int):=fun j hj=>by
        unfold upd
        by_cases e:j=i
        · rw [if_pos e,e,hsucc,List.length_map]
        · rw [if_neg e];exact ho j (by omega)
      have hrange:(List.range (i+1)).filter (gm c a).lost=(List.range i).filter (gm c a).lost++(bif (gm c a).lost i then [i] else []):=by
        rw [List.range_succ,List.filter_append]
        cases h:(gm c a).lost i<;>simp [h]
      refine Ret.bindE (zjP hc (A.F.inv.vs _ (List.getElem_mem hi)) a.party) ?_
      refine Ret.ite (fun hl => ?_) (fun hl => ?_)
      · rw [←hlostE] at hl
        refine Ret.bindE (zL hi) ?_
        refine Ret.bindE (List.getElem?_set_self (by omega)) ?_
        have hK:K.length≤1500:=by
          rw [hk,kn]
          have:=List.length_filter_le (gm c a).lost (List.range i)
          rw [List.length_range] at this;omega
        refine Ret.bindE (zbh 0 (by omega)) ?_
        refine Ret.some ⟨by simp [hlr],by simp [hlo],hb',fun j hj => ?_,fun j hj => ?_,?_⟩
        · simp only
          rw [List.set_set,kX (by omega)]
          unfold upd
          by_cases e:j=i
          · rw [if_pos e,e,if_pos hl]
          · rw [if_neg e];exact hr j (by omega)
        · simp only;rw [hO1];exact hoo j hj
        · simp only;rw [hk,hrange,hl,cond_true,Xq];rfl
      · rw [←hlostE] at hl
        refine Ret.some ⟨by simp [hlr],by simp [hlo],hb',fun j hj => ?_,fun j hj => ?_,?_⟩
        · simp only
          rw [hR1]
          unfold upd
          by_cases e:j=i
          · rw [if_pos e,e,if_neg (by rw [hl];simp)]
          · rw [if_neg e];exact hr j (by omega)
        · simp only;rw [hO1];exact hoo j hj
        · simp only;rw [hk,hrange,hl,cond_false,List.append_nil]
  · rintro _ ⟨⟨R,O,B,K⟩,rfl,hlr,hlo,hbef,hr,ho,hk⟩
    simp only [Sum.elim_inl] at hlr hlo hbef hr ho hk ⊢
    refine Ret.bind (P:=fun o:(List Int×List Int) ⊕ Unit=>∃ s,o=.inl s∧L3 (gm c a) a.positions.length s) (Ret.forL (L3 (gm c a)) (by omega) ?_ (fun i s hi hs => ?_) (fun s h=>⟨s,rfl,h⟩)) ?_
    · refine ⟨hlr,fun j hj => ?_,?_⟩
      · rw [hr j hj];unfold r2
        split
        · rfl
        · rw [if_neg (by omega)]
      · simp only;rw [hk];unfold K2;rw [List.range_zero,List.filter_nil,List.append_nil];rfl
    · obtain ⟨R1,K1⟩:=s
      obtain ⟨h1,h2,h3⟩:=hs
      simp only at h1 h2 h3 ⊢
      have hown:(gm c a).own i=a.positions[i].own:=by
        show (match a.positions[i]? with | some q=>q.own | none=>false)=_
        rw [List.getElem?_eq_getElem hi]
      have hsame:xu (gm c a) i=false→L3 (gm c a) (i+1) (R1,K1):=fun ht=>by
        refine ⟨h1,fun j hj => ?_,?_⟩
        · simp only;rw [h2 j hj];unfold r2
          split
          · rfl
          · by_cases e:j=i
            · subst e;rw [if_neg (by rw [ht];simp),if_neg (by rw [ht];simp)]
            · by_cases e2:xu (gm c a) j=true∧j < i
              · rw [if_pos e2,if_pos ⟨e2.1,by omega⟩]
              · rw [if_neg e2,if_neg (fun h=>e2 ⟨h.1,by have:=h.2;omega⟩)]
        · simp only;rw [h3];unfold K2;rw [List.range_succ,List.filter_append];simp [ht]
      refine Ret.bind (P:=fun v=>L3 (gm c a) (i+1) v) ?_ (fun v hv=>Ret.some hv)
      refine Ret.bindE (zJ (List.getElem?_eq_getElem hi)) ?_
      have hv3:(bif a.positions[i].own then (Option.bind (zh a.positions.length (i:Int)) fun k7=>(Option.bind (O[k7]?) fun e9=>(bif (e9 == 0) then (Option.bind (zh a.positions.length (i:Int)) fun k8=>(Option.bind (R1[k8]?) fun e10=>some (e10 == (-1)))) else some false))) else some false)=some (xu (gm c a) i):=by
        rw [zL hi]
        simp only [Option.bind_some]
        rw [vg (by omega:i < O.length),vg (by omega:i < R1.length)]
        simp only [Option.bind_some]
        rw [ho i hi,h2 i hi,←hown]
        unfold xu r2
        cases e1:(gm c a).own i with
        | false=>rfl
        | true=>
          cases e2:(gm c a).succ i with
          | cons x l=>
            rw [beq_eq_false_iff_ne.2 (by simp;omega)];simp
          | nil=>
            cases e3:(gm c a).lost i with
            | true=>rfl
            | false=>simp
      refine Ret.bindE hv3 ?_
      refine Ret.ite (fun ht => ?_) (fun ht=>Ret.some (hsame ht))
      have hK1:K1.length≤4000:=by
        rw [h3,kn]
        have:=zjQ (gm c a) i
        omega
      refine Ret.bindE (Vq 0 hi h1 hK1) ?_
      refine Ret.some ⟨by simp [h1],fun j hj => ?_,?_⟩
      · simp only
        rw [kX (by omega)]
        unfold upd
        by_cases e:j=i
        · subst e
          have h4:(gm c a).lost j=false:=by
            simp only [xu,Bool.and_eq_true,Bool.not_eq_true'] at ht;exact ht.2.1
          rw [if_pos rfl];unfold r2;rw [if_neg (by rw [h4];simp),if_pos ⟨ht,by omega⟩]
        · rw [if_neg e,h2 j hj];unfold r2
          split
          · rfl
          · by_cases e2:xu (gm c a) j=true∧j < i
            · rw [if_pos e2,if_pos ⟨e2.1,by omega⟩]
            · rw [if_neg e2,if_neg (fun h=>e2 ⟨h.1,by have:=h.2;omega⟩)]
      · simp only;rw [h3];unfold K2;rw [List.range_succ,List.filter_append,←List.append_assoc,Xq];simp [ht,cst]
    · rintro _ ⟨⟨R1,K1⟩,rfl,h1,h2,h3⟩
      simp only [Sum.elim_inl] at h1 h2 h3 ⊢
      obtain ⟨hB,hbd⟩:=zfn (G:=gm c a) (r:=at_ R1) (o:=at_ O) h2 ho
      have hQ0:=zfp (bef:=B) (P:=[]) hn h1 hlo hB (by rw [List.nil_append];exact hbd)
      refine Ret.bind (P:=fun v:List Int=>v.length=(gm c a).n∧Jv (gm c a) (at_ v)∧∀ i,i < (gm c a).n→at_ v i≤1500) ?_ ?_
      · obtain ⟨z,hz,hq,_⟩:=hQ0
        have hK1:K1=cst ([]++K2 (gm c a) (gm c a).n):=by rw [h3,List.nil_append];rfl
        rw [hK1]
        refine Ret.bindE hz ?_
        refine Ret.bind (P:=fun y:List Int=>y.length=(gm c a).n∧Jv (gm c a) (at_ y)∧∀ i,i < (gm c a).n→at_ y i≤1500) (Ret.iter (QI (gm c a) B) (fun s=>2*((gm c a).n+2 - s.2.2.2.2.2.toNat)+(bif s.2.1 then 1 else 0)) hq (fun s hs => ?_)) (fun y hy=>Ret.some hy)
        obtain ⟨to,ok,R2,O2,K3,nx⟩:=s
        obtain ⟨g1,g2,P,Q,g3,g4,g5,g6⟩:=hs
        simp only at g1 g2 g3 g4 g5 g6 ⊢
        have hKn:(P++Q).length≤(gm c a).n:=by
          have:=kW (L2:=List.range (gm c a).n) g3.core.nd (fun y hy=>List.mem_range.2 (g3.core.lt y hy))
          rwa [List.length_range] at this
        rcases g6 with ⟨rfl,rfl,g7⟩ | ⟨rfl,u,Q',rfl,rfl,rfl⟩
        · refine Ret.ite (fun h=>by cases h) (fun _ => ?_)
          exact Ret.some ⟨g1,(g3.done A.closed).ok A.closed,fun i hi=>by have:=g4 i hi;omega⟩
        · refine Ret.ite (fun _ => ?_) (fun h=>by cases h)
          have E:=g3.enter
          obtain ⟨_,hun,_⟩:=E.core.split
          obtain ⟨l,l1,l2,l3⟩:=hbef.row u hun
          have hcount:∀ x,x < (gm c a).n→l.count x=((gm c a).succ x).count u:=fun x hx=>by rw [l3 x,if_pos (by rw [←hgn];exact hx)]
          have hlmem:∀ x∈l,x < (gm c a).n:=fun x hx=>by
            have h5:0 < l.count x:=List.count_pos_iff.2 hx
            rw [l3 x] at h5
            split at h5
            · rename_i h6;exact h6
            · split at h5
              · simp at h5
              · omega
          refine Ret.bindE (zL hun) ?_
          refine Ret.bindE l1 ?_
          refine Ret.bind (P:=fun o:(List Int×List Int×List Int) ⊕ Unit=>∃ s5,o=.inl s5∧s5.1.length=(gm c a).n∧s5.2.1.length=(gm c a).n∧∃ Q2,s5.2.2=cst (P++u::Q2)∧EInv (gm c a) (at_ s5.1) (at_ s5.2.1) P u Q2 (fun y=>l.count y)∧Bnd (gm c a) (at_ s5.1) (P++u::Q2).length) ?_ ?_
          · rw [kn]
            refine Ret.forL (fun k s5=>s5.1.length=(gm c a).n∧s5.2.1.length=(gm c a).n∧∃ Q2,s5.2.2=cst (P++u::Q2)∧EInv (gm c a) (at_ s5.1) (at_ s5.2.1) P u Q2 (fun y=>(l.take k).count y)∧Bnd (gm c a) (at_ s5.1) (P++u::Q2).length) (by omega) ⟨g1,g2,Q',g5,by simpa using E,g4⟩ (fun k s5 hk hs5 => ?_) (fun s5 h=>⟨s5,rfl,by rw [List.take_length] at h;exact h⟩)
            obtain ⟨R4,O4,K4⟩:=s5
            obtain ⟨i1,i2,Q2,i3,i4,i5⟩:=hs5
            simp only at i1 i2 i3 i4 i5 ⊢
            have hx:=hlmem _ (List.getElem_mem hk)
            refine Ret.bindE (zJ (e:=(l[k]:Int)) (by unfold cst;rw [List.getElem?_map,List.getElem?_eq_getElem hk];rfl)) ?_
            rw [i3]
            refine Ret.bind (zgL hc A _ i1 i2 i4 i5 hx ?_) (fun z hz => ?_)
            · have h6:=Vr hk l[k]
              unfold upd at h6
              rw [if_pos rfl] at h6
              have h7:(l.take (k+1)).count l[k]≤l.count l[k]:=(List.take_sublist _ _).count_le _
              rw [hcount _ hx] at h7
              show (l.take k).count l[k] < _
              omega
            · obtain ⟨j1,j2,Q3,j3,j4,j5⟩:=hz
              refine Ret.some ⟨j2,j1,Q3,j3,?_,j5⟩
              simp only
              rw [zfo hk];exact j4
          · rintro _ ⟨⟨R4,O4,K4⟩,rfl,i1,i2,Q2,i3,i4,i5⟩
            simp only [Sum.elim_inl] at i1 i2 i3 i4 i5 ⊢
            have hB2:=i4.leave hcount
            have hPQ:P++[u]++Q2=P++u::Q2:=by simp
            obtain ⟨z2,hz2,hq2,hz3,hz4⟩:=zfp (bef:=B) (P:=P++[u]) (Q:=Q2) hn i1 i2 hB2 (by rw [hPQ];exact i5)
            rw [hPQ] at hz2 hq2
            rw [i3]
            have hnx:((P++[u]).length:Int)=(P.length:Int)+1:=by simp
            rw [hnx] at hz2
            refine Ret.bindE hz2 ?_
            refine Ret.some ⟨hq2,?_⟩
            simp only [cond_true]
            rw [List.length_append] at hz3 hz4
            simp only [List.length_cons,List.length_nil] at hz3 hz4
            rcases hz3 with ⟨e1,e2⟩ | ⟨e1,e2⟩
            · rw [e1,e2,cond_false];omega
            · rw [e1,e2,cond_true];omega
      · intro v hv
        refine Ret.bindE (yH (hgn.symm.trans hv.1.symm)) ?_
        exact Ret.some hv
end
end
theorem StartP.get {c:ContractT} {hs:List Int} {ms r:List MarkT} (h:StartP c hs ms r) {i:Nat} {m:MarkT} (hi:i < c.clauses.length) (hm:ms[i]?=some m) (h0:m.status≠0):r[i]?=some m:=by
  have hl:i < r.length:=by rw [h.ok.1];exact hi
  rw [List.getElem?_eq_getElem hl]
  rcases h.rel i m r[i] hm (List.getElem?_eq_getElem hl) with e | ⟨e,_⟩
  · rw [e]
  · exact absurd e h0
theorem Zx {c:ContractT} {s:StateT} {party:Int}:qG c s party=true↔∃ (i:Nat) (k:ClauseT) (m:MarkT),c.clauses[i]?=some k∧s.marks[i]?=some m∧k.final=true∧m.status=4∧m.bearer=party:=by
  unfold qG
  rw [Bool.not_eq_true',List.all_eq_false]
  constructor
  · rintro ⟨i,hi,h⟩
    simp only [Bool.not_eq_true',Bool.not_eq_false,V2] at h
    split at h
    · rename_i k m hk hm
      simp only [Bool.and_eq_true,beq_iff_eq] at h
      exact ⟨i,k,m,hk,hm,h.1,h.2.1,h.2.2⟩
    · cases h
  · rintro ⟨i,k,m,hk,hm,h1,h2,h3⟩
    refine ⟨i,List.mem_range.2 (List.getElem?_eq_some_iff.1 hm).1,?_⟩
    simp [V2,hk,hm,h1,h2,h3]
theorem zdC {c:ContractT} {party:Int} {q:PosT} {m:Int} (hm:m∈zB c party q):(m = -2∧q.own=true)∨(-1≤m∧m < c.acts.length∧q.state.day < c.days):=by
  rcases qd.1 hm with ⟨h1,h2⟩ | ⟨h1,_,h2⟩ | ⟨h1,i,h2,_,h3⟩
  · exact .inl ⟨h2,h1⟩
  · exact .inr ⟨by omega,by omega,h1⟩
  · exact .inr ⟨by omega,by omega,h1⟩
theorem XJ (c:ContractT) (q:PosT):target c q (-2)={state:=q.state,own:=false}:=if_pos rfl
theorem ZG (c:ContractT) (q:PosT) {m:Int} (h : -1≤m):target c q m={state:=qM c q.state m,own:=true}:=if_neg (by omega)
section
section
variable {c:ContractT} {party:Int} {p:PosT} {a:ArenaT}
theorem ArOk.lost (A:ArOk c party p a) {i:Nat} (hi:i < a.positions.length):(gm c a).lost i=qG c a.positions[i].state party:=by
  show (match a.positions[i]? with | some q=>qG c q.state a.party | none=>false)=_
  rw [List.getElem?_eq_getElem hi,A.pa]
theorem ArOk.own (A:ArOk c party p a) {i:Nat} (hi:i < a.positions.length):(gm c a).own i=a.positions[i].own:=by
  show (match a.positions[i]? with | some q=>q.own | none=>false)=_
  rw [List.getElem?_eq_getElem hi]
theorem ArOk.pos (A:ArOk c party p a):0 < a.positions.length:=(List.getElem?_eq_some_iff.1 A.F.first).1
theorem ArOk.tgt (A:ArOk c party p a) {i:Nat} (hi:i < a.positions.length) {T:List MoveT} (hT:a.moves[i]?=some T) {m:MoveT} (hm:m∈T) :
    m.step∈zB c party a.positions[i]∧0≤m.to∧∃ h:m.to.toNat < a.positions.length,a.positions[m.to.toNat]=target c a.positions[i] m.step:=by
  obtain ⟨T',h1,h2,h3⟩:=A.mv hi
  rw [hT] at h1;cases h1
  obtain ⟨h4,h5⟩:=h3 m hm
  obtain ⟨h6,h7⟩:=List.getElem?_eq_some_iff.1 h5
  exact ⟨by rw [←h2];exact List.mem_map.2 ⟨m,hm,rfl⟩,h4,h6,h7⟩
theorem ArOk.ne (A:ArOk c party p a) {i:Nat} (hi:i < a.positions.length) {T:List MoveT} (hT:a.moves[i]?=some T) (ho:a.positions[i].own=true):T≠[]:=by
  obtain ⟨T',h1,h2,_⟩:=A.mv hi
  rw [hT] at h1;cases h1
  intro e
  subst e
  have:(-2:Int)∈zB c party a.positions[i]:=qd.2 (.inl ⟨ho,rfl⟩)
  rw [←h2] at this;cases this
end
end
section
def AttrP (c:ContractT) (party:Int):Nat→PosT→Prop
  | 0,q=>qG c q.state party=true
  | k+1,q=>qG c q.state party=true∨(q.own=true∧∀ m∈zB c party q,AttrP c party k (target c q m))∨(q.own=false∧∃ m∈zB c party q,AttrP c party k (target c q m))
def jp (c:ContractT) (party:Int) (q:PosT):Prop:=∀ k,¬ AttrP c party k q
theorem AttrP.zero {c:ContractT} {party:Int} {q:PosT} (h:qG c q.state party=true):∀ k,AttrP c party k q
  | 0=>h
  | k+1=>.inl h
theorem AttrP.succ1 {c:ContractT} {party:Int}:∀ {k:Nat} {q:PosT},AttrP c party k q→AttrP c party (k+1) q
  | 0,q,h=>.inl h
  | k+1,q,h=>by
    rcases h with h | ⟨h1,h2⟩ | ⟨h1,t,h2,h3⟩
    · exact .inl h
    · exact .inr (.inl ⟨h1,fun t ht=>(h2 t ht).succ1⟩)
    · exact .inr (.inr ⟨h1,t,h2,h3.succ1⟩)
theorem AttrP.mono {c:ContractT} {party:Int} {k k':Nat} {q:PosT} (hk:k≤k') (h:AttrP c party k q):AttrP c party k' q:=by
  induction hk with
  | refl=>exact h
  | step _ ih=>exact ih.succ1
section
variable {c:ContractT} {party:Int} {p:PosT} {a:ArenaT}
theorem zfr (A:ArOk c party p a):∀ (k i:Nat) (hi:i < a.positions.length),Attr (gm c a) k i↔AttrP c party k a.positions[i]
  | 0,i,hi=>by show (gm c a).lost i=true↔_;rw [A.lost hi];rfl
  | k+1,i,hi=>by
    obtain ⟨T,hT,hst,_⟩:=A.mv hi
    have hs:=A.succ hi hT
    have go:∀ m∈T,(Attr (gm c a) k m.to.toNat↔AttrP c party k (target c a.positions[i] m.step)):=fun m hm=>by
      obtain ⟨_,_,t3,t4⟩:=A.tgt hi hT hm
      rw [zfr A k _ t3,t4]
    have hall:(∀ t∈(gm c a).succ i,Attr (gm c a) k t)↔∀ m∈zB c party a.positions[i],AttrP c party k (target c a.positions[i] m):=by
      rw [hs,←hst]
      constructor
      · intro h x hx
        obtain ⟨m,hm,rfl⟩:=List.mem_map.1 hx
        exact (go m hm).1 (h _ (List.mem_map.2 ⟨m,hm,rfl⟩))
      · intro h x hx
        obtain ⟨m,hm,rfl⟩:=List.mem_map.1 hx
        exact (go m hm).2 (h _ (List.mem_map.2 ⟨m,hm,rfl⟩))
    have hex:(∃ t∈(gm c a).succ i,Attr (gm c a) k t)↔∃ m∈zB c party a.positions[i],AttrP c party k (target c a.positions[i] m):=by
      rw [hs,←hst]
      constructor
      · rintro ⟨x,hx,h⟩
        obtain ⟨m,hm,rfl⟩:=List.mem_map.1 hx
        exact ⟨_,List.mem_map.2 ⟨m,hm,rfl⟩,(go m hm).1 h⟩
      · rintro ⟨x,hx,h⟩
        obtain ⟨m,hm,rfl⟩:=List.mem_map.1 hx
        exact ⟨_,List.mem_map.2 ⟨m,hm,rfl⟩,(go m hm).2 h⟩
    show ((gm c a).lost i=true∨((gm c a).own i=true∧∀ t∈(gm c a).succ i,Attr (gm c a) k t)∨((gm c a).own i=false∧∃ t∈(gm c a).succ i,Attr (gm c a) k t))↔_
    rw [A.lost hi,A.own hi,hall,hex]
    rfl
def RankP (c:ContractT) (party:Int) (q:PosT) (x:Int):Prop := -1≤x∧∀ k:Nat,(x ≠ -1∧x≤k)↔AttrP c party k q
theorem zjR (A:ArOk c party p a) {r:Nat→Int} (hr:Jv (gm c a) r) {i:Nat} (hi:i < a.positions.length):RankP c party a.positions[i] (r i):=
  ⟨(hr i hi).1,fun k=>((hr i hi).2 k).trans (zfr A k i hi)⟩
theorem RankP.safe {q:PosT} {x:Int} (h:RankP c party q x):x = -1↔jp c party q:=by
  constructor
  · intro e k hk
    exact ((h.2 k).2 hk).1 e
  · intro hs
    have:=h.1
    by_cases e:x = -1
    · exact e
    · exact absurd ((h.2 x.toNat).1 ⟨e,by omega⟩) (hs _)
end
theorem zgM {c:ContractT} {party:Int} {p:PosT} {L:List PosT} (hl:L.length≤1500) (h:∀ x,Rch c party p x→x∈L):¬ zbf c party p:=by
  rintro ⟨L1,h1,h2,q,h3,h4⟩
  have h5:(q::L1).Nodup:=List.nodup_cons.2 ⟨h4,h1.nd⟩
  have:=kW (L2:=L) h5 (fun x hx=>by
    rcases List.mem_cons.1 hx with e | hx
    · rw [e];exact h q h3
    · exact h x (h1.rch x hx))
  rw [List.length_cons] at this
  omega
end
section
open Classical in
noncomputable def xA (c:ContractT) (party:Int) (q:PosT):Bool:=decide (jp c party q)
theorem yK {c:ContractT} {party:Int} {q:PosT}:xA c party q=true↔jp c party q:=by unfold xA;simp
theorem yL {c:ContractT} {party:Int} {q:PosT} (h:jp c party q):qG c q.state party=false:=by
  cases e:qG c q.state party with
  | false=>rfl
  | true=>exact absurd e (h 0)
theorem zdD {c:ContractT} {party:Int} (l:List Int) (f:Int→PosT) (h:∀ m∈l,¬ jp c party (f m)):∃ k,∀ m∈l,AttrP c party k (f m):=by
  induction l with
  | nil=>exact ⟨0,fun m hm=>by cases hm⟩
  | cons x l ih=>
    obtain ⟨k,hk⟩:=ih fun m hm=>h m (List.mem_cons_of_mem _ hm)
    have hx:=h x List.mem_cons_self
    obtain ⟨k2,hk2⟩:∃ k,AttrP c party k (f x):=Classical.not_forall_not.1 hx
    refine ⟨k+k2,fun m hm => ?_⟩
    rcases List.mem_cons.1 hm with rfl | hm
    · exact hk2.mono (by omega)
    · exact (hk m hm).mono (by omega)
theorem QM {c:ContractT} {party:Int} {q:PosT} (ho:q.own=true):jp c party q↔qG c q.state party=false∧∃ m∈zB c party q,jp c party (target c q m):=by
  constructor
  · intro h
    refine ⟨yL h,?_⟩
    apply Classical.byContradiction
    intro hn
    obtain ⟨k,hk⟩:=zdD (zB c party q) (target c q) (fun m hm hs=>hn ⟨m,hm,hs⟩)
    exact h (k+1) (.inr (.inl ⟨ho,hk⟩))
  · rintro ⟨h1,m,hm,h2⟩ k hk
    cases k with
    | zero=>
      have hk:qG c q.state party=true:=hk
      rw [h1] at hk;cases hk
    | succ k=>
      rcases hk with hk | ⟨_,hk⟩ | ⟨hk,_⟩
      · rw [h1] at hk;cases hk
      · exact h2 k (hk m hm)
      · rw [ho] at hk;cases hk
theorem zbi {c:ContractT} {party:Int} {q:PosT} (ho:q.own=false):jp c party q↔qG c q.state party=false∧∀ m∈zB c party q,jp c party (target c q m):=by
  constructor
  · intro h
    exact ⟨yL h,fun m hm k hk=>h (k+1) (.inr (.inr ⟨ho,m,hm,hk⟩))⟩
  · rintro ⟨h1,h2⟩ k hk
    cases k with
    | zero=>
      have hk:qG c q.state party=true:=hk
      rw [h1] at hk;cases hk
    | succ k=>
      rcases hk with hk | ⟨hk,_⟩ | ⟨_,m,hm,hk⟩
      · rw [h1] at hk;cases hk
      · rw [ho] at hk;cases hk
      · exact h2 m hm k hk
theorem XK {c:ContractT} {party:Int} (W:PosT→Prop) (h1:∀ q,W q→qG c q.state party=false) (h2:∀ q,W q→q.own=true→∃ m∈zB c party q,W (target c q m)) (h3:∀ q,W q→q.own=false→∀ m∈zB c party q,W (target c q m)):∀ q,W q→jp c party q:=by
  intro q hq k
  induction k generalizing q with
  | zero=>
    intro h
    have h:qG c q.state party=true:=h
    rw [h1 q hq] at h;cases h
  | succ k ih=>
    rintro (h | ⟨ho,h⟩ | ⟨ho,m,hm,h⟩)
    · rw [h1 q hq] at h;cases h
    · obtain ⟨m,hm,hw⟩:=h2 q hq ho
      exact ih _ hw (h m hm)
    · exact ih _ (h3 q hq ho m hm) h
section
variable {c:ContractT} {party:Int} {p:PosT} {a:ArenaT}
theorem zgN (hc:c.Ok) (A:ArOk c party p a):yC c a=some (a.positions.map (xA c party)):=by
  refine Ret.eq ?_
  have hn:a.positions.length≤1500:=A.F.inv.len
  unfold yC
  refine Ret.bind (zfq hc A) ?_
  rintro r ⟨hl,hr,_⟩
  have hmk:mkN 1 (r.length:Int)=some a.positions.length:=by rw [hl];exact Xr hn (by omega)
  refine Ret.bindE hmk ?_
  refine Ret.bind (P:=fun o:List Bool ⊕ Unit=>o=.inl (a.positions.map (xA c party))) (Ret.forL (fun i s=>s.length=a.positions.length∧∀ j,j < i→s[j]?=(a.positions.map (xA c party))[j]?) (by omega) ⟨by simp,fun j hj=>by omega⟩ (fun i s hi hs => ?_) (fun s hs => ?_)) ?_
  · have hi':i < a.positions.length:=by omega
    refine Ret.bindE (zJ (vg hi)) ?_
    refine Ret.bindE (zL hi') ?_
    refine Ret.bindE (List.getElem?_eq_getElem (show i < s.length by omega)) ?_
    refine Ret.some ⟨by simp [hs.1],fun j hj => ?_⟩
    by_cases e:j=i
    · subst e
      rw [List.getElem?_set_self (by omega),List.getElem?_map,List.getElem?_eq_getElem hi']
      simp only [Option.map_some,Option.some.injEq]
      have h1:=(zjR A hr hi').safe
      cases h2:xA c party a.positions[j] with
      | true=>rw [h1.2 (yK.1 h2)];rfl
      | false=>
        refine beq_eq_false_iff_ne.2 fun e => ?_
        rw [yK.2 (h1.1 e)] at h2;cases h2
    · rw [List.getElem?_set_ne (Ne.symm e)];exact hs.2 j (by omega)
  · have e:s=a.positions.map (xA c party):=List.ext_getElem? fun j=>by
      by_cases h:j < r.length
      · exact hs.2 j h
      · rw [List.getElem?_eq_none (by omega),List.getElem?_eq_none (by simp;omega)]
    rw [e]
  · rintro _ rfl
    simp only [Sum.elim_inl]
    refine Ret.bindE (yH (by simp)) ?_
    exact Ret.some rfl
theorem zh9 (A:ArOk c party p a) {i:Nat} (hi:i < a.positions.length):ze (a.positions.map (xA c party)) (i:Int)=some (xA c party a.positions[i]):=zJ (by rw [List.getElem?_map,List.getElem?_eq_getElem hi];rfl)
end
end
section
def pp (P:List Int) (p:PosT):PosT:={state:=rs P p.state,own:=p.own}
section
variable {c:ContractT} {ρ:Nat→Nat}
abbrev prt (c:ContractT) (ρ:Nat→Nat) (r:Nat):List Int:=xt ρ r c.clauses.length
theorem zgO (ρ:Nat→Nat) (r n:Nat):(xt ρ r n).Pairwise (· < ·):=by
  unfold xt
  rw [List.pairwise_map]
  exact (List.Pairwise.sublist List.filter_sublist List.pairwise_lt_range).imp fun h=>by omega
theorem Z7 (hc:c.Ok) (hv:(zZ c).1=0) (R:RootsOf c ρ) (r:Nat):∃ ks,PartOk c (prt c ρ r) ks:=by
  have ho:=hc.off.lt (by omega:0 < 8)
  have sm:=qu ho hv
  obtain ⟨ks,hks⟩:=Zn (g:=QJ c (prt c ρ r)) (l:=prt c ρ r) (fun x hx=>by
    obtain ⟨x0,x1,x2⟩:=jN.1 hx
    have hk:=List.getElem?_eq_getElem (show x.toNat < c.clauses.length by omega)
    obtain ⟨st,hst⟩:=Zn (g:=wZ (prt c ρ r)) (l:=c.clauses[x.toNat].start) (fun y hy=>by
      have hcd:=sm.cond _ _ hk y hy
      have hm:y.clause∈prt c ρ r:=jN.2 ⟨by omega,by omega,by rw [←x2];exact (R.start _ _ hk y hy).symm⟩
      unfold wZ jm
      rw [if_pos hm]
      exact ⟨_,rfl⟩)
    refine ⟨({c.clauses[x.toNat] with start:=st}:ClauseT),?_⟩
    unfold QJ
    have e:ze c.clauses x=some c.clauses[x.toNat]:=(qU x0 (by omega)).2
    rw [e]
    simp only [Option.bind_some,hst,Option.map_some])
  exact ⟨ks,hv,zce (fun x hx=>by obtain ⟨x0,x1,_⟩:=jN.1 hx;omega) (zgO ρ r _),hks⟩
theorem zbj (hc:c.Ok) {s:StateT} (hv:VS c s) {i:Nat} {a:ActT} (ha:c.acts[i]?=some a) (h1:a.kind=1) {P:List Int} {ks:List ClauseT} (h:PartOk c P ks) (hd:s.day < c.days) (hn:∀ x∈P,∀ k,c.clauses[x.toNat]?=some k→(i:Int) ∉ jE k):rs P (qM c s i)=rs P s:=by
  have ho:=hc.off.lt (by omega:0 < 8)
  have hia:=(List.getElem?_eq_some_iff.1 ha).1
  have hpo:=h.pos
  have hvd:=Z3 hc h hv
  rw [←yI hc h hv (by omega) (by omega) hd]
  obtain ⟨_,_,_,ap⟩:=xX (h.okk hc) hvd (a:=(i:Int)) (by omega) (by show (i:Int) < c.acts.length;omega) hd
  rcases ap i a rfl ha with ⟨g1,_⟩ | ⟨_,g2,g3,g4,g5⟩
  · exact absurd h1 g1
  · have hk1:(a.kind == 1)=true:=beq_iff_eq.2 h1
    have hk3:(a.kind == 3)=false:=beq_eq_false_iff_ne.2 (by omega)
    have hno:∀ (p:Nat) (k:ClauseT),(cp c ks).clauses[p]?=some k→(i:Int)≠k.act∧(i:Int)≠k.pause∧(i:Int)≠k.resume:=by
      intro p k' hk'
      have hk':ks[p]?=some k':=hk'
      have hp:p < P.length:=by rw [←hpo.len];exact (List.getElem?_eq_some_iff.1 hk').1
      obtain ⟨x,k,st,e1,e2,e3,e4⟩:=hpo.at_ p hp
      rw [e4] at hk'
      cases hk'
      have:=hn (x:Int) (List.mem_of_getElem? e1) k (by simpa using e2)
      have kv:=ww ho hv.cv e2
      unfold jE at this
      by_cases hps:k.pause = -1
      · rw [if_pos hps] at this
        have hr:k.resume = -1:=by
          rcases kv.pause with g | g
          · exact g.2
          · exfalso
            have:=g.1
            rw [hps] at this
            simp [vD,ze] at this
        simp only [List.mem_singleton] at this
        exact ⟨this,by simp only;omega,by simp only;omega⟩
      · rw [if_neg hps] at this
        simp only [List.mem_cons,List.not_mem_nil,or_false,not_or] at this
        exact this
    have em:∀ (ms:List MarkT) (F:ClauseT→MarkT→MarkT),(∀ (p:Nat) (k:ClauseT) (m:MarkT),(cp c ks).clauses[p]?=some k→F k m=m)→ms.mapIdx (atK (cp c ks) F)=ms:=by
      intro ms F hF
      refine List.ext_getElem? fun p => ?_
      rw [List.getElem?_mapIdx]
      cases hp:ms[p]? with
      | none=>rfl
      | some m=>
        simp only [Option.map_some,atK]
        cases hk:(cp c ks).clauses[p]? with
        | none=>rfl
        | some k=>simp only [hF p k m hk]
    have e3:ms3 (cp c ks) i a (rs P s).holders (rs P s).marks=(rs P s).marks:=by
      unfold ms3 ms2 ms1
      rw [hk3,cond_false,em _ _ fun p k m hk => ?_,em _ _ fun p k m hk => ?_]
      · obtain ⟨n1,n2,n3⟩:=hno p k hk
        unfold wY
        rw [beq_eq_false_iff_ne.2 n2,beq_eq_false_iff_ne.2 n3]
        cases qY m<;>rfl
      · obtain ⟨n1,n2,n3⟩:=hno p k hk
        unfold kV
        rw [beq_eq_false_iff_ne.2 (Ne.symm n1)]
        cases qY m<;>rfl
    refine za7 g2 (g3.trans (by unfold hs3;rw [hk1];rfl)) (g4.trans (by unfold us3;rw [hk1];rfl)) ?_
    rw [e3] at g5
    exact g5.same hvd.rdy
theorem zia (hc:c.Ok) (R:RootsOf c ρ) {s:StateT} (hv:VS c s) {i:Nat} (hi:i < c.acts.length) (hd:s.day < c.days) {r r':Nat} (hr:r < c.clauses.length) (hr':r' < c.clauses.length) (er:ρ r=r) (er':ρ r'=r') (hne:r≠r') (h:rs (prt c ρ r) (qM c s i)≠rs (prt c ρ r) s):rs (prt c ρ r') (qM c s i)=rs (prt c ρ r') s:=by
  have ha:=List.getElem?_eq_getElem hi
  by_cases h1:c.acts[i].kind=1
  · obtain ⟨ks,hk⟩:=Z7 hc hv.cv R r
    obtain ⟨ks',hk'⟩:=Z7 hc hv.cv R r'
    refine zbj hc hv ha h1 hk' hd fun x hx k hkx hin => ?_
    refine h (zbj hc hv ha h1 hk hd fun y hy k2 hky hin2 => ?_)
    obtain ⟨_,_,x2⟩:=jN.1 hx
    obtain ⟨_,_,y2⟩:=jN.1 hy
    exact hne (by rw [←x2,←y2];exact R.nums _ _ _ _ _ hky hkx hin2 hin)
  · exfalso
    refine hne ?_
    rw [←er,←er']
    refine R.whole ?_ r r' hr hr'
    unfold xL
    rw [List.any_eq_true]
    exact ⟨_,List.getElem_mem hi,by simp [h1]⟩
theorem JR {s:StateT} (hv:VS c s) {P:List Int} {ks:List ClauseT} (h:PartOk c P ks) {party:Int}:qG (cp c ks) (rs P s) party=true↔∃ (i:Nat) (k:ClauseT) (m:MarkT),(i:Int)∈P∧c.clauses[i]?=some k∧s.marks[i]?=some m∧k.final=true∧m.status=4∧m.bearer=party:=by
  have hpo:=h.pos
  have hlm:=hv.lm
  rw [Zx]
  constructor
  · rintro ⟨p,k',m,hk',hm,g⟩
    have hk':ks[p]?=some k':=hk'
    have hp:p < P.length:=by rw [←hpo.len];exact (List.getElem?_eq_some_iff.1 hk').1
    obtain ⟨x,k,st,e1,e2,e3,e4⟩:=hpo.at_ p hp
    rw [e4] at hk'
    cases hk'
    have hm:(rsM P s.marks)[p]?=some m:=hm
    rw [xq e1 (by have:=(List.getElem?_eq_some_iff.1 e2).1;omega)] at hm
    exact ⟨x,k,m,List.mem_of_getElem? e1,e2,hm,g⟩
  · rintro ⟨x,k,m,hx,hk,hm,g⟩
    obtain ⟨p,hp,e⟩:=List.getElem_of_mem hx
    obtain ⟨x',k2,st,e1,e2,e3,e4⟩:=hpo.at_ p hp
    rw [List.getElem?_eq_getElem hp,e] at e1
    have:x=x':=by have:=Option.some.inj e1;omega
    subst this
    rw [hk] at e2
    cases e2
    refine ⟨p,_,m,e4,?_,g⟩
    show (rsM P s.marks)[p]?=some m
    rw [xq (by rw [List.getElem?_eq_getElem hp,e]) (List.getElem?_eq_some_iff.1 hm).1]
    exact hm
theorem zdE (hc:c.Ok) (R:RootsOf c ρ) {s:StateT} (hv:VS c s) {party:Int}:qG c s party=true↔∃ r ks,r < c.clauses.length∧ρ r=r∧PartOk c (prt c ρ r) ks∧qG (cp c ks) (rs (prt c ρ r) s) party=true:=by
  constructor
  · intro h
    obtain ⟨x,k,m,hk,hm,g⟩:=Zx.1 h
    have hx:=(List.getElem?_eq_some_iff.1 hk).1
    obtain ⟨ks,hks⟩:=Z7 hc hv.cv R (ρ x)
    exact ⟨ρ x,ks,by have:=R.fn.le x hx;omega,R.fn.idem x hx,hks,(JR hv hks).2 ⟨x,k,m,jN.2 ⟨by omega,by omega,by simp⟩,hk,hm,g⟩⟩
  · rintro ⟨r,ks,_,_,hks,h⟩
    obtain ⟨x,k,m,_,hk,hm,g⟩:=(JR hv hks).1 h
    exact Zx.2 ⟨x,k,m,hk,hm,g⟩
theorem ko {a b:StateT}:yd a b=false↔a≠b:=by
  rw [←Bool.not_eq_true,JJ]
theorem kp (hc:c.Ok) {P:List Int} {ks:List ClauseT} (h:PartOk c P ks) {party:Int} {p:PosT} (hv:VS c p.state) {m:Int} (hm:m∈zB (cp c ks) party (pp P p)):m∈zB c party p∧target (cp c ks) (pp P p) m=pp P (target c p m):=by
  rcases qd.1 hm with ⟨h1,rfl⟩ | ⟨h1,h2,rfl⟩ | ⟨h1,i,h2,h3,rfl⟩
  · exact ⟨qd.2 (.inl ⟨h1,rfl⟩),by simp [target,pp]⟩
  · refine ⟨qd.2 (.inr (.inl ⟨h1,h2,rfl⟩)),?_⟩
    have h2':(0:Int) < c.acts.length∨True:=.inr trivial
    have e:=yI hc h hv (a := -1) (by omega) (by omega) h1
    simp only [target,pp]
    rw [if_neg (by omega),if_neg (by omega),e]
  · have h2:i < c.acts.length:=h2
    have e:=yI hc h hv (a:=(i:Int)) (by omega) (by omega) h1
    refine ⟨qd.2 (.inr (.inr ⟨h1,i,h2,?_,rfl⟩)),?_⟩
    · have ha:=List.getElem?_eq_getElem h2
      have ha':(cp c ks).acts[i]?=some c.acts[i]:=ha
      simp only [mvB,ha',Bool.and_eq_true,Bool.not_eq_true',ko] at h3
      simp only [mvB,ha,Bool.and_eq_true,Bool.not_eq_true',ko]
      refine ⟨h3.1,fun e2=>h3.2 ?_⟩
      show qM (cp c ks) (rs P p.state) i=rs P p.state
      rw [e,e2]
    · simp only [target,pp]
      rw [if_neg (by omega),if_neg (by omega),e]
theorem V3 (hc:c.Ok) {P:List Int} {ks:List ClauseT} (h:PartOk c P ks) {party:Int} {p:PosT} (hv:VS c p.state) {m:Int} (hm:m∈zB c party p):(m∈zB (cp c ks) party (pp P p)∧target (cp c ks) (pp P p) m=pp P (target c p m))∨((∃ i:Nat,m=(i:Int)∧i < c.acts.length)∧p.state.day < c.days∧rs P (qM c p.state m)=rs P p.state):=by
  rcases qd.1 hm with ⟨h1,rfl⟩ | ⟨h1,h2,rfl⟩ | ⟨h1,i,h2,h3,rfl⟩
  · exact .inl (have g:(-2:Int)∈zB (cp c ks) party (pp P p):=qd.2 (.inl ⟨h1,rfl⟩);⟨g,(kp hc h hv g).2⟩)
  · exact .inl (have g:(-1:Int)∈zB (cp c ks) party (pp P p):=qd.2 (.inr (.inl ⟨h1,h2,rfl⟩));⟨g,(kp hc h hv g).2⟩)
  · have e:=yI hc h hv (a:=(i:Int)) (by omega) (by omega) h1
    by_cases hs:rs P (qM c p.state i)=rs P p.state
    · exact .inr ⟨⟨i,rfl,h2⟩,h1,hs⟩
    · left
      have ha:=List.getElem?_eq_getElem h2
      have ha':(cp c ks).acts[i]?=some c.acts[i]:=ha
      have g:(i:Int)∈zB (cp c ks) party (pp P p):=by
        refine qd.2 (.inr (.inr ⟨h1,i,h2,?_,rfl⟩))
        simp only [mvB,ha,Bool.and_eq_true,Bool.not_eq_true',ko] at h3
        simp only [mvB,ha',Bool.and_eq_true,Bool.not_eq_true',ko]
        refine ⟨h3.1,fun e2=>hs ?_⟩
        rw [←e];exact e2
      exact ⟨g,(kp hc h hv g).2⟩
theorem vK {P:List Int} {p:PosT} {i:Nat} (h:rs P (qM c p.state i)=rs P p.state):pp P (target c p (i:Int))={state:=rs P p.state,own:=true}:=by
  simp only [target,pp]
  rw [if_neg (by omega)]
  simp only [h]
theorem xM (hc:c.Ok) {party:Int} {p:PosT} (hv:VS c p.state) {m:Int} (hm:m∈zB c party p):VS c (target c p m).state:=by
  rcases zdC hm with ⟨rfl,_⟩ | ⟨h1,h2,h3⟩
  · rw [XJ];exact hv
  · rw [ZG c p h1];exact (xX hc hv h1 h2 h3).2.1
theorem zbk (hc:c.Ok) {party:Int} (p:PosT) (hv:VS c p.state) (hd:p.state.day < c.days) (hp0:0≤party) (ho:p.own=true) {i:Nat} (hi:i < c.acts.length) (hm:(i:Int)∈zB c party p):X9 c (qM c p.state i) < X9 c p.state:=by
  have ha:=List.getElem?_eq_getElem hi
  obtain ⟨_,hv2,_,ap⟩:=xX hc hv (a:=(i:Int)) (by omega) (by omega) hd
  rcases qd.1 hm with ⟨_,h2⟩ | ⟨_,_,h2⟩ | ⟨_,j,hj,h3,h2⟩
  · omega
  · omega
  · have:i=j:=by omega
    subst this
    simp only [mvB,ha,Bool.and_eq_true,Bool.not_eq_true',ko,beq_iff_eq,ho] at h3
    refine zgD hc hv hv2 ha (fun hr => ?_) (ap i _ rfl ha) h3.2
    have h4:=h3.1
    simp only [xz,hr] at h4
    have h4:(-1:Int)=party:=by simpa using h4
    omega
theorem zfs {party:Int} {s:StateT} (h:jp c party {state:=s,own:=false}):jp c party {state:=s,own:=true}:=
  (QM rfl).2 ⟨yL (q:={state:=s,own:=false}) h,-2,qd.2 (.inl ⟨rfl,rfl⟩),h⟩
theorem zdF (hc:c.Ok) (hcv:(zZ c).1=0) (R:RootsOf c ρ) {party:Int}:∀ p:PosT,(VS c p.state∧∀ r ks,r < c.clauses.length→ρ r=r→PartOk c (prt c ρ r) ks→jp (cp c ks) party (pp (prt c ρ r) p))→jp c party p:=by
  refine XK _ ?_ ?_ ?_
  · rintro p ⟨hv,hs⟩
    rw [←Bool.not_eq_true]
    intro h
    obtain ⟨r,ks,hr,er,hks,h2⟩:=(zdE hc R hv).1 h
    have:=yL (hs r ks hr er hks)
    have:qG (cp c ks) (rs (prt c ρ r) p.state) party=false:=this
    rw [h2] at this;cases this
  · rintro p ⟨hv,hs⟩ ho
    by_cases hall:∀ r ks,r < c.clauses.length→ρ r=r→PartOk c (prt c ρ r) ks→jp (cp c ks) party {state:=rs (prt c ρ r) p.state,own:=false}
    · refine ⟨-2,qd.2 (.inl ⟨ho,rfl⟩),?_,fun r ks hr er hks => ?_⟩
      · rw [XJ];exact hv
      · have:=hall r ks hr er hks
        simpa [target,pp] using this
    · simp only [Classical.not_forall] at hall
      obtain ⟨r,ks,hr,er,hks,hno⟩:=hall
      obtain ⟨_,m,hm,hsm⟩:=(QM (show (pp (prt c ρ r) p).own=true from ho)).1 (hs r ks hr er hks)
      obtain ⟨g1,g2⟩:=kp hc hks hv hm
      refine ⟨m,g1,xM hc hv g1,fun r' ks' hr' er' hks' => ?_⟩
      rcases qd.1 hm with ⟨_,rfl⟩ | ⟨_,h2,rfl⟩ | ⟨h1,i,h2,h3,rfl⟩
      · exact absurd hsm hno
      · have:p.own=false:=h2
        rw [ho] at this;cases this
      · by_cases e:r=r'
        · subst e
          have:ks=ks':=by
            have:=hks.sel.symm.trans hks'.sel
            exact Option.some.inj this
          subst this
          rw [←g2];exact hsm
        · have h2:i < c.acts.length:=h2
          have hch:rs (prt c ρ r) (qM c p.state i)≠rs (prt c ρ r) p.state:=by
            rw [←yI hc hks hv (by omega) (by omega) h1]
            have ha:=List.getElem?_eq_getElem h2
            have ha':(cp c ks).acts[i]?=some c.acts[i]:=ha
            simp only [mvB,ha',Bool.and_eq_true,Bool.not_eq_true',ko] at h3
            exact h3.2
          rw [vK (zia hc R hv h2 h1 hr hr' er er' e hch)]
          have:=hs r' ks' hr' er' hks'
          simp only [pp,ho] at this
          exact this
  · rintro p ⟨hv,hs⟩ ho m hm
    refine ⟨xM hc hv hm,fun r ks hr er hks => ?_⟩
    have hsr:=hs r ks hr er hks
    rcases V3 hc hks hv hm with ⟨g1,g2⟩ | ⟨⟨i,rfl,hi⟩,_,g⟩
    · rw [←g2]
      exact ((zbi (show (pp (prt c ρ r) p).own=false from ho)).1 hsr).2 m g1
    · rw [vK g]
      simp only [pp,ho] at hsr
      exact zfs hsr
theorem zft (hc:c.Ok) {P:List Int} {ks:List ClauseT} (h:PartOk c P ks) {party:Int} (hp0:0≤party):∀ q:PosT,(∃ p,VS c p.state∧jp c party p∧pp P p=q)→jp (cp c ks) party q:=by
  refine XK _ ?_ ?_ ?_
  · rintro q ⟨p,hv,hs,rfl⟩
    rw [←Bool.not_eq_true]
    intro hl
    obtain ⟨x,k,m,_,hk,hm,g⟩:=(JR hv h).1 hl
    have:=yL hs
    rw [Zx.2 ⟨x,k,m,hk,hm,g⟩] at this
    cases this
  · rintro q ⟨p,hv,hs,rfl⟩ ho
    have key:∀ (n:Nat) (p':PosT),X9 c p'.state≤n→VS c p'.state→jp c party p'→p'.own=true→pp P p'=pp P p→∃ m∈zB (cp c ks) party (pp P p),∃ p2,VS c p2.state∧jp c party p2∧pp P p2=target (cp c ks) (pp P p) m:=by
      intro n
      induction n with
      | zero=>
        intro p' hn hv' hs' ho' e
        obtain ⟨_,m,hm,hsm⟩:=(QM ho').1 hs'
        rw [←e]
        rcases V3 hc h hv' hm with ⟨g1,g2⟩ | ⟨⟨i,rfl,hi⟩,hd,g⟩
        · exact ⟨m,g1,_,xM hc hv' hm,hsm,g2.symm⟩
        · exfalso
          have hl:=zbk hc p' hv' hd hp0 ho' hi hm
          omega
      | succ n ih=>
        intro p' hn hv' hs' ho' e
        obtain ⟨_,m,hm,hsm⟩:=(QM ho').1 hs'
        rcases V3 hc h hv' hm with ⟨g1,g2⟩ | ⟨⟨i,rfl,hi⟩,hd,g⟩
        · rw [←e]
          exact ⟨m,g1,_,xM hc hv' hm,hsm,g2.symm⟩
        · have hl:=zbk hc p' hv' hd hp0 ho' hi hm
          refine ih (target c p' (i:Int)) ?_ (xM hc hv' hm) hsm ?_ ?_
          · rw [ZG c p' (by omega)];simp only;omega
          · rw [ZG c p' (by omega)]
          · rw [vK g,←e]
            simp only [pp,ho']
    obtain ⟨m,hm,p2,g⟩:=key _ p (Nat.le_refl _) hv hs ho rfl
    exact ⟨m,hm,p2,g⟩
  · rintro q ⟨p,hv,hs,rfl⟩ ho m hm
    obtain ⟨g1,g2⟩:=kp hc h hv hm
    exact ⟨target c p m,xM hc hv g1,((zbi (show p.own=false from ho)).1 hs).2 m g1,g2.symm⟩
end
end
section
theorem zjS {c:ContractT} (hc:c.Ok) (s:StateT):Vh c s=some (KI c&&zgG s):=by
  unfold Vh
  rw [zjN hc,zh6]
  simp only [Option.bind_some]
  cases KI c<;>rfl
section
variable {c:ContractT} {ρ:Nat→Nat} {party:Int} {p:PosT}
theorem JS (hc:c.Ok) {s:StateT} (hv:VS c s) {P:List Int} (hr:∀ x∈P,0≤x∧x < c.clauses.length) (hl:P.length≤400):jd P s=some (rs P s):=by
  have hf:=hv.few hc
  have hlm:=hv.lm
  unfold jd
  rw [js (by omega),js (by omega)]
  simp only [Option.bind_some]
  rw [zf9 (st:=fun l=>l) P (fun i=>s.marks[i.toNat]?.getD default) (by omega) (fun i hi=>by
    obtain ⟨x0,x1⟩:=hr _ (List.getElem_mem hi)
    obtain ⟨h1,h2⟩:=qU (l:=s.marks) (n:=P[i]) x0 (by omega)
    simp only [zO,List.getElem?_eq_getElem hi,Option.bind_some,h2]
    rw [kg (by simp;omega)]
    simp only [Option.bind_some,List.getElem?_eq_getElem h1,Option.getD_some]) rfl]
  rfl
theorem zgP (hc:c.Ok) {P:List Int} {ks:List ClauseT} (h:PartOk c P ks) (hv:VS c p.state) {q:PosT} (hq:Rch (cp c ks) party (pp P p) q):∃ x,Rch c party p x∧VS c x.state∧pp P x=q:=by
  induction hq with
  | base=>exact ⟨p,.base,hv,rfl⟩
  | step _ hm ih=>
    obtain ⟨x,h1,h2,rfl⟩:=ih
    obtain ⟨g1,g2⟩:=kp hc h h2 hm
    exact ⟨_,.step h1 g1,xM hc h2 g1,g2.symm⟩
theorem zfu (hc:c.Ok) {P:List Int} {ks:List ClauseT} (h:PartOk c P ks) (hv:VS c p.state) {a:ArenaT} (A:ArOk c party p a):¬ zbf (cp c ks) party (pp P p):=by
  refine zgM (L:=a.positions.map (pp P)) (by rw [List.length_map];exact A.F.inv.len) fun q hq => ?_
  obtain ⟨x,h1,_,rfl⟩:=zgP hc h hv hq
  exact List.mem_map.2 ⟨x,A.F.rch (List.mem_of_getElem? A.F.first) h1,rfl⟩
noncomputable def qj (c:ContractT) (party:Int) (p:PosT) (P:List Int):Bool:=xA (Vn c P).1 party (pp P p)
theorem QN {P:List Int} {ks:List ClauseT} (h:PartOk c P ks):qj c party p P=xA (cp c ks) party (pp P p):=by
  unfold qj;rw [h.eq]
theorem Wd {i:Nat} (hi:i < (qc ρ c.clauses.length).length):∃ r,r < c.clauses.length∧ρ r=r∧(qc ρ c.clauses.length)[i]=prt c ρ r:=by
  unfold qc at hi ⊢
  rw [List.length_map] at hi
  rw [List.getElem_map]
  have:=ve.1 (List.getElem_mem hi)
  exact ⟨_,this.1,this.2,rfl⟩
theorem Y6:(qc ρ c.clauses.length).length≤c.clauses.length:=by
  unfold qc jC
  rw [List.length_map]
  have:=List.length_filter_le (fun x=>ρ x == x) (List.range c.clauses.length)
  simpa using this
theorem V4 (r:Nat):(prt c ρ r).length≤c.clauses.length:=by
  show (xt ρ r c.clauses.length).length≤_
  unfold xt
  rw [List.length_map]
  have:=List.length_filter_le (fun x=>ρ x == r) (List.range c.clauses.length)
  simpa using this
theorem zib (r:Nat):∀ x∈prt c ρ r,0≤x∧x < c.clauses.length:=fun x hx=>by
  obtain ⟨h1,h2,_⟩:=jN.1 hx;exact ⟨h1,h2⟩
theorem V5 (hc:c.Ok) {P:List Int} {ks:List ClauseT} (hl:P.length≤400) (h:PartOk c P ks):wh c P=some (cp c ks,0):=by
  rw [zjL c P (hc.off.lt (by omega)) (fun k hk=>(hc.clauses.2 k hk).start.lt (by omega)) (by omega),h.eq]
theorem zco (hc:c.Ok) (hv:(zZ c).1=0):∃ ρ,RootsOf c ρ∧qy c=some (qc ρ c.clauses.length):=
  zbc c (hc.off.lt (by omega)) (fun k hk=>(hc.clauses.2 k hk).start.lt (by omega)) hv
theorem zfv (hc:c.Ok) (hpl:xY c party p.state=true) {P:List Int} {ks:List ClauseT} (h:PartOk c P ks) :
    Ret (jk (cp c ks) party (pp P p)) (fun r=>(r.2=0∧ArOk (cp c ks) party (pp P p) r.1)∨(r.2=3∧¬ ∃ a,ArOk c party p a)):=by
  obtain ⟨h0,h1,hv⟩:=xK.1 hpl
  have hpl':xY (cp c ks) party (pp P p).state=true:=xK.2 ⟨h0,h1,Z3 hc h hv⟩
  refine Ret.mono (zgK (h.okk hc) hpl') ?_
  rintro r (⟨g1,g2,g3⟩ | ⟨g1,g2⟩)
  · exact .inl ⟨g1,h0,h1,g2,g3⟩
  · exact .inr ⟨g1,fun ⟨a,A⟩=>zfu hc h hv A g2⟩
theorem zgQ {d:ContractT} {q:PosT} {a:ArenaT} (A:ArOk d party q a):∃ hp:0 < a.positions.length,a.positions[0]=q:=by
  have h:=A.F.first
  have hp:=(List.getElem?_eq_some_iff.1 h).1
  refine ⟨hp,?_⟩
  rw [List.getElem?_eq_getElem hp] at h
  exact Option.some.inj h
theorem zdG {d:ContractT} (hd:d.Ok) {q:PosT} {a:ArenaT} (A:ArOk d party q a):ze (a.positions.map (xA d party)) 0=some (xA d party q):=by
  obtain ⟨hp,e⟩:=zgQ A
  have:=zh9 A hp
  rw [e] at this
  exact this
theorem XL {α:Type} (f:α→Bool) (l:List α) {i:Nat} (hi:i < l.length):(l.take (i+1)).filter f=(l.take i).filter f++(bif f l[i] then [l[i]] else []):=by
  rw [List.take_succ_eq_append_getElem hi,List.filter_append]
  cases h:f l[i]<;>simp [h]
def zic (c:ContractT) (ρ:Nat→Nat) (party:Int) (p:PosT):Prop:=∀ r ks,r < c.clauses.length→ρ r=r→PartOk c (prt c ρ r) ks→∃ a,ArOk (cp c ks) party (pp (prt c ρ r) p) a∧jk (cp c ks) party (pp (prt c ρ r) p)=some (a,0)
theorem zbl (hc:c.Ok) (hpl:xY c party p.state=true) (R:RootsOf c ρ) (hC:qy c=some (qc ρ c.clauses.length)) :
    Ret (xJ c party p) (fun r=>(r.2=3∧r.1=[]∧¬ ∃ a,ArOk c party p a)∨(r.2=0∧r.1=(qc ρ c.clauses.length).filter (fun P=>!qj c party p P)∧zic c ρ party p)):=by
  obtain ⟨h0,h1,hv⟩:=xK.1 hpl
  have sm:=qu (hc.off.lt (by omega)) hv.cv
  have hcl:=sm.clauses
  have hpl':=Y6 (c:=c) (ρ:=ρ)
  have hat:=fun i (hi:i < (qc ρ c.clauses.length).length)=>Wd (c:=c) (ρ:=ρ) hi
  generalize hL:qc ρ c.clauses.length=L at hC hpl' hat ⊢
  unfold xJ
  refine Ret.bind (P:=fun r:Int×List (List Int)=>(r.1=3∧¬ ∃ a,ArOk c party p a)∨(r.1=0∧r.2=L.filter (fun P=>!qj c party p P)∧∀ j (hj:j < L.length) ks,PartOk c L[j] ks→∃ a,ArOk (cp c ks) party (pp L[j] p) a∧jk (cp c ks) party (pp L[j] p)=some (a,0))) ?_ ?_
  · unfold kM
    refine Ret.bindE (v:=false) ?_ ?_
    · rw [decide_eq_false (show ¬ party < 0 by omega),decide_eq_false (show ¬ c.parties≤party by omega),vF c _ hc,JI hv];rfl
    refine Ret.ite (fun h=>by cases h) (fun _ => ?_)
    refine Ret.bind (P:=fun r:Int×List (List Int)=>(r.1=3∧¬ ∃ a,ArOk c party p a)∨(r.1=0∧r.2=L.filter (fun P=>!qj c party p P)∧∀ j (hj:j < L.length) ks,PartOk c L[j] ks→∃ a,ArOk (cp c ks) party (pp L[j] p) a∧jk (cp c ks) party (pp L[j] p)=some (a,0))) ?_ (fun v hv=>Ret.some hv)
    refine Ret.bindE hC ?_
    refine Ret.bind (P:=fun o:(Int×List (List Int)) ⊕ (Int×List (List Int))=>match o with
      | .inl s=>s.1=0∧s.2=L.filter (fun P=>!qj c party p P)∧∀ j (hj:j < L.length) ks,PartOk c L[j] ks→∃ a,ArOk (cp c ks) party (pp L[j] p) a∧jk (cp c ks) party (pp L[j] p)=some (a,0)
      | .inr s=>s.1=3∧¬ ∃ a,ArOk c party p a) ?_ ?_
    · refine Ret.forL (fun i s=>s.1=0∧s.2=(L.take i).filter (fun P=>!qj c party p P)∧∀ j (hj:j < L.length) ks,j < i→PartOk c L[j] ks→∃ a,ArOk (cp c ks) party (pp L[j] p) a∧jk (cp c ks) party (pp L[j] p)=some (a,0)) (by omega) ⟨rfl,by simp,fun j hj ks h=>by omega⟩ ?_ (fun s hs=>⟨hs.1,by rw [hs.2.1,List.take_length],fun j hj ks h=>hs.2.2 j hj ks hj h⟩)
      rintro i ⟨e,l⟩ hi ⟨rfl,hl,har⟩
      simp only at hl
      have hlen:l.length≤400:=by
        rw [hl]
        have h1:=List.length_filter_le (fun P=>!qj c party p P) (L.take i)
        rw [List.length_take] at h1
        omega
      obtain ⟨r,hr,er,ep⟩:=hat i hi
      obtain ⟨ks,hks⟩:=Z7 hc hv.cv R r
      rw [←ep] at hks
      have hPl:L[i].length≤400:=by rw [ep];have:=V4 (c:=c) (ρ:=ρ) r;omega
      have hPr:∀ x∈L[i],0≤x∧x < c.clauses.length:=by rw [ep];exact zib r
      refine Ret.bindE (zJ (List.getElem?_eq_getElem hi)) ?_
      refine Ret.bindE (V5 hc hPl hks) ?_
      refine Ret.bind (P:=fun v:Int×List (List Int)=>(v.1=3∧¬ ∃ a,ArOk c party p a)∨(v.1=0∧v.2=l++(bif !qj c party p L[i] then [L[i]] else [])∧∃ a,ArOk (cp c ks) party (pp L[i] p) a∧jk (cp c ks) party (pp L[i] p)=some (a,0))) ?_ ?_
      · refine Ret.ite (fun _ => ?_) (fun h=>by cases h)
        refine Ret.bindE (JS hc hv hPr hPl) ?_
        refine Ret.bind (P:=fun v:Int×List (List Int)=>(v.1=3∧¬ ∃ a,ArOk c party p a)∨(v.1=0∧v.2=l++(bif !qj c party p L[i] then [L[i]] else [])∧∃ a,ArOk (cp c ks) party (pp L[i] p) a∧jk (cp c ks) party (pp L[i] p)=some (a,0))) ?_ (fun v hv=>Ret.some hv)
        unfold ZY
        obtain ⟨⟨a,e⟩,hf,hr2⟩:=zfv hc hpl hks
        refine Ret.bindE hf ?_
        rcases hr2 with ⟨g1,A⟩ | ⟨g1,g2⟩
        · simp only at g1 A
          subst g1
          refine Ret.bind (P:=fun v:List (List Int)=>v=l++(bif !qj c party p L[i] then [L[i]] else [])) ?_ (fun v hv=>Ret.some (.inr ⟨rfl,hv,a,A,hf⟩))
          refine Ret.bindE (v := !qj c party p L[i]) ?_ ?_
          · rw [zgN (hks.okk hc) A]
            simp only [Option.bind_some,zdG (hks.okk hc) A,QN hks]
            rfl
          cases hb:(!qj c party p L[i]) with
          | true=>
            simp only [cond_true]
            rw [kg (by simp;omega)]
            exact Ret.some rfl
          | false=>exact Ret.some (by simp)
        · simp only at g1
          subst g1
          exact Ret.some (.inl ⟨rfl,g2⟩)
      · rintro ⟨e,l2⟩ (⟨g1,g2⟩ | ⟨g1,g2,a,A,hf⟩)
        · simp only at g1
          subst g1
          exact Ret.some ⟨rfl,g2⟩
        · simp only at g1 g2
          subst g1
          refine Ret.some ⟨rfl,?_,fun j hj ks' hji hks' => ?_⟩
          · show l2=_
            rw [g2,hl,XL _ _ hi]
          · rcases Nat.lt_or_ge j i with h | h
            · exact har j hj ks' h hks'
            · obtain rfl:j=i:=by omega
              have:ks=ks':=Option.some.inj (hks.sel.symm.trans hks'.sel)
              subst this
              exact ⟨a,A,hf⟩
    · rintro (s | s) hs
      · exact Ret.some (.inr hs)
      · exact Ret.some (.inl hs)
  · rintro ⟨e,l⟩ (⟨g1,g2⟩ | ⟨g1,g2,g3⟩)
    · simp only at g1
      subst g1
      exact Ret.some (.inl ⟨rfl,rfl,g2⟩)
    · simp only at g1 g2
      subst g1
      refine Ret.some (.inr ⟨rfl,g2,fun r ks hr er hks => ?_⟩)
      have hm:prt c ρ r∈L:=by
        rw [←hL]
        exact List.mem_map.2 ⟨r,ve.2 ⟨hr,er⟩,rfl⟩
      obtain ⟨j,hj,e⟩:=List.getElem_of_mem hm
      have:=g3 j hj ks (by rw [e];exact hks)
      rw [e] at this
      exact this
theorem zbm (hc:c.Ok) (h:xY c party p.state=false):xJ c party p=some ([],1):=by
  unfold xJ kM
  rw [vF c _ hc]
  simp only [xY] at h
  simp only [Option.bind_some]
  have:(bif decide (party < 0) then some true else (bif decide (c.parties≤party) then some true else some (!vsB c p.state)))=some true:=by
    by_cases h1:party < 0
    · rw [decide_eq_true h1];rfl
    by_cases h2:c.parties≤party
    · rw [decide_eq_true h2];cases decide (party < 0)<;>rfl
    rw [decide_eq_false h1,decide_eq_false h2]
    rw [decide_eq_true (show 0≤party by omega),decide_eq_true (show party < c.parties by omega)] at h
    simp only [Bool.true_and] at h
    rw [h];rfl
  rw [this];rfl
theorem We {r:List (List Int)×Int} (h:xJ c party p=some r):xp c party p=some (r.2 == 0&&(r.1.length:Int) == 0,r.2):=by
  unfold xp
  rw [h]
  simp only [Option.bind_some]
  cases (r.2 == 0)<;>rfl
theorem zdH (hc:c.Ok) (hpl:xY c party p.state=true) (R:RootsOf c ρ):xA c party p=true↔(qc ρ c.clauses.length).filter (fun P=>!qj c party p P)=[]:=by
  obtain ⟨h0,h1,hv⟩:=xK.1 hpl
  rw [yK,List.filter_eq_nil_iff]
  constructor
  · intro hs P hP
    obtain ⟨i,hi,rfl⟩:=List.getElem_of_mem hP
    obtain ⟨r,hr,er,ep⟩:=Wd (c:=c) (ρ:=ρ) hi
    obtain ⟨ks,hks⟩:=Z7 hc hv.cv R r
    rw [ep,QN hks,yK.2 (zft hc hks h0 _ ⟨p,hv,hs,rfl⟩)]
    simp
  · intro h
    refine zdF hc hv.cv R p ⟨hv,fun r ks hr er hks => ?_⟩
    have:=h (prt c ρ r) (List.mem_map.2 ⟨r,ve.2 ⟨hr,er⟩,rfl⟩)
    rw [QN hks] at this
    simpa [yK] using this
end
end
end Go.Proofs.YtjkljacdbljkpaaGreatDoor
