/-
  'ComposeSteps': for every input the call returns true, and each argument reads afterwards as it read before.
  The tables of the library that the rows list: from the row's condition to what the contracts ask; the witness.
  The law 'ComposeSteps'.
  The fixed example of the laws of layer 23: 'head' returns true. Printed by mkheads.py.
  Functions of the program as the kernel reckons them: with fuel, and texts of small numbers. Printed by mkheads.py.
  'compose.Restrict', 'Lost' and 'Safe': what they return.
  Games of parts of a contract: a position is safe exactly if all parts are safe in it.
  What can be forced from a position, told without an arena.
  RegionBreach: a breach is never left.
  A clause that has ended stays as it is; a breach stays a breach.
  region.Ranks: all of it.
  region.Ranks: the queue.
  region.Ranks: what it returns for an arena is the number of moves in which a breach can be forced.
  What an arena holds: closed under moves, and all that can be reached.
  'arena.From': what it returns.
  A search through positions, breadth first: what is known of it.
  The text of a position tells it from every other position of the same contract.
  'arena.After'; 'Few', 'Tame', 'Doer'.
  What 'contract.Components' and 'contract.Linked' come to.
-/
import Derived.Test.YtjkljacdbljkpaaGreatDoorCB11
import Derived.Test.YtjkljacdbljkpaaGreatDoorCB10
import Derived.Test.YtjkljacdbljkpaaGreatDoorCB06
import Derived.Test.YtjkljacdbljkpaaGreatDoorRows
import Derived.LaidLaws
import Derived.LaidSub
import Derived.Deep.DeepLaidRun
import Derived.Lib.LaidTab
import Derived.JoinedOf
import Derived.Test.YtjkljacdbljkpaaGreatDoorTie
import Derived.Test.YtjkljacdbljkpaaGreatDoorCards
import Derived.SevenTiedAt
namespace Go.Proofs.YtjkljacdbljkpaaGreatDoor
open Go.RowKit
set_option linter.unusedVariables false
set_option linter.unusedSimpArgs false
set_option maxRecDepth 100000
def numsK (k:ClauseT):List Int:=if k.pause = -1 then [k.act] else [k.act,k.pause,k.resume]
theorem s_numbers (k:ClauseT):d_numbers k=some (numsK k):=by
  unfold d_numbers numsK
  by_cases h:k.pause = -1
  · simp [h]
  · rw [if_neg h,beq_eq_false_iff_ne.2 h];rfl
theorem numsK_len (k:ClauseT):(numsK k).length≤3:=by unfold numsK;split<;>simp
def wholeB (l:List ActT):Bool:=l.any fun a => !(a.kind == 1)
theorem s_31a (l:List ActT) (hl:l.length < 4611686018427387904):d_31a l=some (wholeB l):=by
  unfold d_31a d_51a
  rw [forR_first (fun j=>match l[j]? with | some a=>a.kind == 1 | none=>true) (fun j=>(j:Int)) hl (fun j hj=>by
    simp only [idxI_nat',List.getElem?_eq_getElem hj,Option.bind_some,d_32a]
    cases (l[j].kind == 1)<;>rfl)]
  cases hf:(List.range l.length).find? (fun j => !(match l[j]? with | some a=>a.kind == 1 | none=>true)) with
  | none=>
    have:wholeB l=false:=by
      unfold wholeB
      rw [List.any_eq_false]
      intro a ha
      obtain ⟨j,hj,rfl⟩:=List.getElem_of_mem ha
      have:=find_none hf j hj
      simp only [List.getElem?_eq_getElem hj] at this
      simp [this]
    rw [this];rfl
  | some k=>
    obtain ⟨h2,h1,_⟩:=find_some hf
    have:wholeB l=true:=by
      unfold wholeB
      rw [List.any_eq_true]
      simp only [List.getElem?_eq_getElem h2] at h1
      exact ⟨l[k],List.getElem_mem h2,by rw [h1];rfl⟩
    rw [this]
    simp only [Option.bind_some,Sum.elim_inr]
    have:decide ((0:Int)≤(k:Int))=true:=decide_eq_true (by omega)
    first | rfl | (rw [this])
structure Mg (n:Nat) (a b:List Int):Prop where
  uf:UF n b
  eq:∀ x y,x < n→y < n→root a x=root a y→root b x=root b y
theorem Mg.refl {n:Nat} {a:List Int} (h:UF n a):Mg n a a:=⟨h,fun _ _ _ _ e=>e⟩
theorem Mg.trans {n:Nat} {a b c:List Int} (h:Mg n a b) (h':Mg n b c):Mg n a c:=⟨h'.uf,fun x y hx hy e=>h'.eq x y hx hy (h.eq x y hx hy e)⟩
structure EqR (E:Nat→Nat→Prop):Prop where
  refl:∀ x,E x x
  symm:∀ x y,E x y→E y x
  trans:∀ x y z,E x y→E y z→E x z
def UE (n:Nat) (E:Nat→Nat→Prop) (a:List Int):Prop:=∀ x y,x < n→y < n→root a x=root a y→E x y
theorem r_join {n i j:Nat} {above:List Int} (h:UF n above) (hi:i < n) (hj:j < n):Ret (d_30a (i:Int) (j:Int) above) fun b=>Mg n above b∧root b i=root b j∧∀ E,EqR E→E i j→UE n E above→UE n E b:=by
  obtain ⟨b,h1,h2,h3,h4,h5⟩:=s_join h hi hj
  refine ⟨b,h1,⟨h2,h4⟩,h3,fun E hE hij hU x y hx hy hxy => ?_⟩
  rcases h5 x y hx hy hxy with e | ⟨e1,e2⟩
  · exact hU x y hx hy e
  · have hx':E x i:=e1.elim (fun e=>hU x i hx hi e) (fun e=>hE.trans _ _ _ (hU x j hx hj e) (hE.symm _ _ hij))
    have hy':E y i:=e2.elim (fun e=>hU y i hy hi e) (fun e=>hE.trans _ _ _ (hU y j hy hj e) (hE.symm _ _ hij))
    exact hE.trans _ _ _ hx' (hE.symm _ _ hy')
structure Ties (c:ContractT) (E:Nat→Nat→Prop):Prop where
  eqr:EqR E
  start:∀ (i:Nat) (k:ClauseT),c.clauses[i]?=some k→∀ s∈k.start,E i s.clause.toNat
  nums:∀ (i j:Nat) (k q:ClauseT) (a:Int),c.clauses[i]?=some k→c.clauses[j]?=some q→a∈numsK k→a∈numsK q→E i j
  whole:wholeB c.acts=true→∀ i j,i < c.clauses.length→j < c.clauses.length→E i j
structure Users (c:ContractT) (n:Nat) (us:List (Int×Int)):Prop where
  rng:∀ a u,mget a us=some u→0≤u∧u < n
  use:∀ a u,mget a us=some u→∃ q,c.clauses[u.toNat]?=some q∧a∈numsK q
structure Hangs (n:Nat) (k:ClauseT) (i:Nat) (ab:List Int) (us:List (Int×Int)):Prop where
  start:∀ s∈k.start,root ab i=root ab s.clause.toNat
  nums:∀ a∈numsK k,∃ u:Nat,mget a us=some (u:Int)∧u < n∧root ab u=root ab i
structure CInv (c:ContractT) (m:Nat) (s:List Int×List (Int×Int)):Prop where
  uf:UF c.clauses.length s.1
  users:Users c c.clauses.length s.2
  whole:wholeB c.acts=true→∀ i,i < m→root s.1 0=root s.1 i
  least:∀ E,Ties c E→UE c.clauses.length E s.1
  hangs:∀ (i:Nat) (k:ClauseT),i < m→c.clauses[i]?=some k→Hangs c.clauses.length k i s.1 s.2
structure RootsOf (c:ContractT) (ρ:Nat→Nat):Prop where
  whole:wholeB c.acts=true→∀ i j,i < c.clauses.length→j < c.clauses.length→ρ i=ρ j
  least:∀ E,Ties c E→∀ i j,i < c.clauses.length→j < c.clauses.length→ρ i=ρ j→E i j
  fn:RootFn c.clauses.length ρ
  start:∀ (i:Nat) (k:ClauseT),c.clauses[i]?=some k→∀ s∈k.start,ρ i=ρ s.clause.toNat
  nums:∀ (i j:Nat) (k q:ClauseT) (a:Int),c.clauses[i]?=some k→c.clauses[j]?=some q→a∈numsK k→a∈numsK q→ρ i=ρ j
theorem root_id {n:Nat} {s:List Int} (h:UF n s) (hs:∀ i,i < n→s.getD i 0=(i:Int)):∀ i,i < n→root s i=i:=fun i hi=>by
  rw [h.root_eq hi,if_pos]
  unfold up
  rw [hs i hi];simp
theorem s_Components (c:ContractT) (ho:c.off.length < 4611686018427387904) (hst:∀ k∈c.clauses,k.start.length < 4611686018427387904) (hv:(validR c).1=0) :
    ∃ ρ,RootsOf c ρ∧d_Components c=some (partsL ρ c.clauses.length):=by
  have sm:=small_of ho hv
  have h400:=sm.clauses
  have hacts:=sm.acts
  suffices hh:Ret (d_Components c) (fun l=>∃ ρ,RootsOf c ρ∧l=partsL ρ c.clauses.length) by
    obtain ⟨l,h1,ρ,h2,rfl⟩:=hh
    exact ⟨ρ,h2,h1⟩
  unfold d_Components
  rw [s_Valid c ho hst]
  simp only [Option.bind_some,hv,beq_self_eq_true,cond_true]
  refine Ret.bind (P:=fun o=>match o with | .inl s=>UF c.clauses.length s∧∀ i,i < c.clauses.length→root s i=i | .inr _=>False) ?_ ?_
  · refine Ret.forL (fun m s=>s.length=400∧∀ i,i < m→s.getD i 0=(i:Int)) (by omega) ⟨by simp,fun i hi=>by omega⟩ ?_ ?_
    · rintro i s hi ⟨h1,h2⟩
      rw [idxN_nat (by omega)]
      simp only [Option.bind_some,getD_at (show i < s.length by omega)]
      refine Ret.some ⟨by simp [h1],fun j hj => ?_⟩
      rw [List.getD_eq_getElem?_getD,List.getElem?_set]
      by_cases e:i=j
      · subst e;rw [if_pos rfl,if_pos (by omega)];rfl
      · rw [if_neg e,←List.getD_eq_getElem?_getD];exact h2 j (by omega)
    · rintro s ⟨h1,h2⟩
      have hu:UF c.clauses.length s:=⟨h1,fun i hi=>by rw [h2 i hi];omega,h400⟩
      exact ⟨hu,root_id hu h2⟩
  · rintro (s1 | s1) h0
    case inr=>exact h0.elim
    obtain ⟨h0,h0r⟩:UF c.clauses.length s1∧∀ i,i < c.clauses.length→root s1 i=i:=h0
    simp only [Sum.elim_inl,s_31a c.acts (by omega),Option.bind_some]
    refine Ret.bind (P:=fun o=>match o with | .inl s=>CInv c c.clauses.length s | .inr _=>False) ?_ ?_
    · refine Ret.forL (CInv c) (by omega) ⟨h0,⟨fun a u h=>(by cases h),fun a u h=>(by cases h)⟩,fun _ i hi=>by omega,fun E hE x y hx hy h=>(by rw [h0r x hx,h0r y hy] at h;rw [h];exact hE.eqr.refl y),fun i k hi=>by omega⟩ ?_ (fun s hs=>hs)
      rintro i ⟨ab,us⟩ hi ⟨i1,i2,i4,i5,i3⟩
      simp only at i1 i2 i3 i4 i5
      have hk:=List.getElem?_eq_getElem hi
      have hs8:=sm.start _ (List.getElem_mem hi)
      simp only [idxI_nat',hk,Option.bind_some]
      refine Ret.bind (P:=fun b=>Mg c.clauses.length ab b∧(wholeB c.acts=true→root b 0=root b i)∧∀ E,Ties c E→UE c.clauses.length E b) ?_ ?_
      · cases hwh:wholeB c.acts with
        | false=>exact Ret.some ⟨.refl i1,fun h=>(by cases h),i5⟩
        | true=>
          have:=r_join (i:=0) i1 (by omega) hi
          refine Ret.bind this fun b hb=>Ret.some ⟨hb.1,fun _=>hb.2.1,fun E hE=>hb.2.2 E hE.eqr (hE.whole hwh 0 i (by omega) hi) (i5 E hE)⟩
      · rintro v1 ⟨hv1,hv2,hv3⟩
        refine Ret.bind (P:=fun o=>match o with | .inl b=>Mg c.clauses.length v1 b∧(∀ E,Ties c E→UE c.clauses.length E b)∧∀ s∈c.clauses[i].start,root b i=root b s.clause.toNat | .inr _=>False) ?_ ?_
        · refine Ret.forL (fun m b=>Mg c.clauses.length v1 b∧(∀ E,Ties c E→UE c.clauses.length E b)∧∀ (q:Nat) (hq:q < c.clauses[i].start.length),q < m→root b i=root b c.clauses[i].start[q].clause.toNat) (by omega) ⟨.refl hv1.uf,hv3,fun q hq h=>by omega⟩ ?_ ?_
          · rintro q b hq ⟨b1,b3,b2⟩
            have hcd:=sm.cond i _ hk _ (List.getElem_mem hq)
            simp only [idxI_nat',List.getElem?_eq_getElem hq,Option.bind_some]
            have e:c.clauses[i].start[q].clause=(c.clauses[i].start[q].clause.toNat:Int):=by omega
            have hj:c.clauses[i].start[q].clause.toNat < c.clauses.length:=by omega
            rw [e]
            refine Ret.bind (r_join b1.uf hi hj) fun b' hb'=>Ret.some ⟨b1.trans hb'.1,fun E hE=>hb'.2.2 E hE.eqr (hE.start i _ hk _ (List.getElem_mem hq)) (b3 E hE),fun q' hq' hlt => ?_⟩
            rcases Nat.lt_or_ge q' q with h | h
            · have hcd':=sm.cond i _ hk _ (List.getElem_mem hq')
              exact hb'.1.eq _ _ hi (by omega) (b2 q' hq' h)
            · obtain rfl:q'=q:=by omega
              exact hb'.2.1
          · rintro b ⟨b1,b3,b2⟩
            refine ⟨b1,b3,fun s hs => ?_⟩
            obtain ⟨q,hq,e⟩:=List.getElem_of_mem hs
            rw [←e];exact b2 q hq hq
        · rintro (b | b) hb
          case inr=>exact hb.elim
          obtain ⟨b1,b3,b2⟩:=hb
          have b0:=hv1.trans b1
          simp only [Sum.elim_inl,s_numbers,Option.bind_some]
          have hn3:=numsK_len c.clauses[i]
          refine Ret.bind (P:=fun o=>match o with | .inl s=>CInv c (i+1) s | .inr _=>False) ?_ ?_
          · refine Ret.forL (fun m s=>Mg c.clauses.length b s.1∧Users c c.clauses.length s.2∧(∀ E,Ties c E→UE c.clauses.length E s.1)∧(∀ a u,mget a us=some u→mget a s.2=some u)∧∀ (q:Nat) (hq:q < (numsK c.clauses[i]).length),q < m→∃ u:Nat,mget (numsK c.clauses[i])[q] s.2=some (u:Int)∧u < c.clauses.length∧root s.1 u=root s.1 i) (by omega) ⟨.refl b1.uf,i2,b3,fun _ _ h=>h,fun q hq h=>by omega⟩ ?_ ?_
            · rintro q ⟨d,ws⟩ hq ⟨d1,d2,d5,d3,d4⟩
              simp only at d1 d2 d3 d4 d5
              simp only [idxI_nat',List.getElem?_eq_getElem hq,Option.bind_some]
              cases hm:mget (numsK c.clauses[i])[q] ws with
              | some u=>
                have hu:=d2.rng _ _ hm
                obtain ⟨kq,hkq,haq⟩:=d2.use _ _ hm
                simp only [Option.isSome_some,cond_true,Option.getD_some]
                have e:u=(u.toNat:Int):=by omega
                rw [e]
                have:=r_join (i:=u.toNat) d1.uf (by omega) hi
                refine Ret.bind (P:=fun r:List Int×List (Int×Int)=>r.2=ws∧Mg c.clauses.length d r.1∧(∀ E,Ties c E→UE c.clauses.length E r.1)∧root r.1 u.toNat=root r.1 i) (Ret.bind this fun b' hb'=>Ret.some ⟨rfl,hb'.1,fun E hE=>hb'.2.2 E hE.eqr (hE.nums _ _ _ _ _ hkq hk haq (List.getElem_mem hq)) (d5 E hE),hb'.2.1⟩) ?_
                rintro ⟨d',ws'⟩ ⟨rfl,g1,g3,g2⟩
                refine Ret.some ⟨d1.trans g1,d2,g3,d3,fun q' hq' hlt => ?_⟩
                rcases Nat.lt_or_ge q' q with h | h
                · obtain ⟨u',f1,f2,f3⟩:=d4 q' hq' h
                  exact ⟨u',f1,f2,g1.eq _ _ f2 hi f3⟩
                · obtain rfl:q'=q:=by omega
                  exact ⟨u.toNat,by rw [←e];exact hm,by omega,g2⟩
              | none=>
                simp only [Option.isSome_none,cond_false,Option.bind_some]
                refine Ret.some ⟨d1,⟨fun a u hu => ?_,fun a u hu => ?_⟩,d5,fun a u hu => ?_,fun q' hq' hlt => ?_⟩
                · rw [mget_msetI] at hu
                  split at hu
                  · cases hu;omega
                  · exact d2.rng a u hu
                · rw [mget_msetI] at hu
                  split at hu
                  · rename_i e
                    cases hu
                    exact ⟨c.clauses[i],by rw [Int.toNat_natCast];exact hk,by rw [e];exact List.getElem_mem hq⟩
                  · exact d2.use a u hu
                · show mget a (mset (numsK c.clauses[i])[q] (i:Int) ws)=some u
                  rw [mget_msetI]
                  split
                  · rename_i e;rw [e] at hu;rw [d3 _ _ hu] at hm;cases hm
                  · exact d3 a u hu
                · show ∃ u:Nat,mget (numsK c.clauses[i])[q'] (mset (numsK c.clauses[i])[q] (i:Int) ws)=some (u:Int)∧u < c.clauses.length∧root d u=root d i
                  rw [mget_msetI]
                  split
                  · exact ⟨i,rfl,hi,rfl⟩
                  · rename_i hne
                    rcases Nat.lt_or_ge q' q with h | h
                    · exact d4 q' hq' h
                    · obtain rfl:q'=q:=by omega
                      exact absurd rfl hne
            · rintro ⟨d,ws⟩ ⟨d1,d2,d5,d3,d4⟩
              simp only at d1 d2 d3 d4 d5
              refine ⟨d1.uf,d2,fun hw j hj => ?_,d5,fun j k hj hkj => ?_⟩
              · have h0c:0 < c.clauses.length:=by omega
                rcases Nat.lt_or_ge j i with h | h
                · exact (b0.trans d1).eq _ _ h0c (by omega) (i4 hw j h)
                · obtain rfl:j=i:=by omega
                  exact (b1.trans d1).eq _ _ h0c hi (hv2 hw)
              show Hangs c.clauses.length k j d ws
              rcases Nat.lt_or_ge j i with h | h
              · have hj':j < c.clauses.length:=by omega
                obtain ⟨g1,g2⟩:=i3 j k h hkj
                have M:=b0.trans d1
                refine ⟨fun s hs => ?_,fun a ha => ?_⟩
                · have hcd:=sm.cond j k hkj s hs
                  exact M.eq _ _ hj' (by omega) (g1 s hs)
                · obtain ⟨u,f1,f2,f3⟩:=g2 a ha
                  exact ⟨u,d3 _ _ f1,f2,M.eq _ _ f2 hj' f3⟩
              · obtain rfl:j=i:=by omega
                rw [hk] at hkj
                cases hkj
                refine ⟨fun s hs => ?_,fun a ha => ?_⟩
                · have hcd:=sm.cond j _ hk s hs
                  exact d1.eq _ _ hi (by omega) (b2 s hs)
                · obtain ⟨q,hq,e⟩:=List.getElem_of_mem ha
                  rw [←e]
                  exact d4 q hq hq
          · rintro (s | s) hs
            · exact Ret.some hs
            · exact hs.elim
    · rintro (s | s) hs
      case inr=>exact hs.elim
      obtain ⟨c1,c2,c4,c5,c3⟩:=hs
      obtain ⟨ab',e⟩:=s_gather c1
      simp only [Sum.elim_inl,e,Option.bind_some]
      refine Ret.some ⟨root s.1,⟨fun hw i j hi hj=>(c4 hw i hi).symm.trans (c4 hw j hj),fun E hE i j hi hj h=>c5 E hE i j hi hj h,rootFn c1,fun i k hk=>(c3 i k (List.getElem?_eq_some_iff.1 hk).1 hk).start,fun i j k q a hk hq ha hb => ?_⟩,rfl⟩
      obtain ⟨u,f1,f2,f3⟩:=(c3 i k (List.getElem?_eq_some_iff.1 hk).1 hk).nums a ha
      obtain ⟨u',g1,g2,g3⟩:=(c3 j q (List.getElem?_eq_some_iff.1 hq).1 hq).nums a hb
      rw [f1] at g1
      have:u=u':=by have:=Option.some.inj g1;omega
      subst this
      rw [←f3,←g3]
end Go.Proofs.YtjkljacdbljkpaaGreatDoor
namespace Go.Proofs.YtjkljacdbljkpaaGreatDoor
open Go.RowKit
set_option linter.unusedVariables false
set_option linter.unusedSimpArgs false
set_option maxRecDepth 100000
theorem mem_acts {c:ContractT} {party:Int} {p:PosT} {n:Nat} {x:Int}:x∈actsL c party p n↔∃ i:Nat,i < n∧mvB c party p i=true∧x=(i:Int):=by
  unfold actsL
  simp only [List.mem_map,List.mem_filter,List.mem_range]
  constructor
  · rintro ⟨i,⟨a,b⟩,rfl⟩;exact ⟨i,a,b,rfl⟩
  · rintro ⟨i,a,b,rfl⟩;exact ⟨i,⟨a,b⟩,rfl⟩
theorem mem_moves {c:ContractT} {party:Int} {p:PosT} {x:Int}:x∈movesL c party p↔(p.own=true∧x = -2)∨(p.state.day < c.days∧p.own=false∧x = -1)∨(p.state.day < c.days∧∃ i:Nat,i < c.acts.length∧mvB c party p i=true∧x=(i:Int)):=by
  unfold movesL
  by_cases hd:c.days≤p.state.day
  · have:¬ p.state.day < c.days:=by omega
    simp only [hd,decide_true,cond_true,List.append_nil,this,false_and,or_false]
    cases p.own<;>simp
  · have:p.state.day < c.days:=by omega
    simp only [hd,decide_false,cond_false,List.mem_append,mem_acts,this,true_and]
    cases p.own<;>simp
def fewS (s:StateT):Bool:=decide ((s.holders.length:Int)≤20)&&(decide ((s.used.length:Int)≤70)&&decide ((s.marks.length:Int)≤60))
theorem s_Few15 (s:StateT):d_Few15 s=some (fewS s):=by
  unfold d_Few15 fewS
  simp only [cond_some,Option.bind_some,Bool.cond_false_right]
def smallB (c:ContractT) (n:Int):Bool:=
  !(decide (20 < (c.holders.length:Int))||(decide (30 < (c.units.length:Int))||(decide (70 < (c.acts.length:Int))||(decide (n < (c.clauses.length:Int))||decide (100 < (c.off.length:Int))))))&&c.clauses.all (fun k => !decide (20 < (k.start.length:Int)))
theorem s_Small15 (c:ContractT) (n:Int) (hc:c.clauses.length < 4611686018427387904):d_Small15 c n=some (smallB c n):=by
  unfold d_Small15 smallB
  rw [forR_all (l:=c.clauses) (fun k => !decide (20 < (k.start.length:Int))) hc (fun i hi=>by
    simp only [idxI_nat',List.getElem?_eq_getElem hi,Option.bind_some]
    cases decide (20 < (c.clauses[i].start.length:Int))<;>rfl)]
  simp only [cond_some,Option.bind_some,Bool.cond_true_left]
  cases (decide (20 < (c.holders.length:Int))||(decide (30 < (c.units.length:Int))||(decide (70 < (c.acts.length:Int))||(decide (n < (c.clauses.length:Int))||decide (100 < (c.off.length:Int)))))) <;>
    cases c.clauses.all (fun k => !decide (20 < (k.start.length:Int)))<;>rfl
def tameB (c:ContractT):Bool:=smallB c 6&&(decide ((c.acts.length:Int)≤8)&&decide (c.days≤20))
theorem s_Tame {c:ContractT} (hc:c.Ok):d_Tame c=some (tameB c):=by
  unfold d_Tame tameB
  rw [s_Small15 c 6 (hc.clauses.lt (by omega))]
  simp only [cond_some,Option.bind_some,Bool.cond_false_right]
end Go.Proofs.YtjkljacdbljkpaaGreatDoor
namespace Go.Proofs.YtjkljacdbljkpaaGreatDoor
open Go.RowKit
set_option linter.unusedVariables false
set_option linter.unusedSimpArgs false
set_option maxRecDepth 100000
def txt (p:PosT):ByteArray:=⟨(textL p).toArray⟩
end Go.Proofs.YtjkljacdbljkpaaGreatDoor
namespace Go.Proofs.YtjkljacdbljkpaaGreatDoor
open Go.RowKit
set_option linter.unusedVariables false
set_option linter.unusedSimpArgs false
set_option maxRecDepth 100000
instance:BEq PosT:=⟨fun a b=>a.own == b.own&&sameB a.state b.state⟩
instance:LawfulBEq PosT where
  eq_of_beq {a b} h:=by
    have h':(a.own == b.own&&sameB a.state b.state)=true:=h
    simp only [Bool.and_eq_true,beq_iff_eq,sameB_iff] at h'
    obtain ⟨h1,h2⟩:=h'
    cases a;cases b;simp_all
  rfl {a}:=by
    show (a.own == a.own&&sameB a.state a.state)=true
    simp [sameB_iff.2 rfl]
noncomputable instance:DecidableEq PosT:=fun a b=>if h:(a == b)=true then isTrue (eq_of_beq h) else isFalse fun e=>h (beq_iff_eq.2 e)
def posIdx (q:PosT) (L:List PosT):Option Int:=if q∈L then some (L.idxOf q:Int) else none
def FRel (c:ContractT) (F:List (ByteArray×Int)) (L:List PosT):Prop:=∀ q:PosT,VS c q.state→mget (txt q) F=posIdx q L
def chkL:Nat→List MoveT→Option Nat
  | n,[]=>some n
  | n,t::r=>if 0≤t.to∧t.to≤(n:Int) then chkL (if t.to=(n:Int) then n+1 else n) r else none
def chkAll:Nat→Nat→List (List MoveT)→Option Nat
  | i,n,[]=>some n
  | i,n,l::r=>if i < n then (chkL n l).bind fun n'=>chkAll (i+1) n' r else none
inductive Rch (c:ContractT) (party:Int) (p0:PosT):PosT→Prop where
  | base:Rch c party p0 p0
  | step {q:PosT} {m:Int} (h:Rch c party p0 q) (hm:m∈movesL c party q):Rch c party p0 (target c q m)
structure PInv (c:ContractT) (party:Int) (p0:PosT) (L:List PosT):Prop where
  vs:∀ q∈L,VS c q.state
  nd:L.Nodup
  rch:∀ q∈L,Rch c party p0 q
  len:L.length≤1500
def MvOk (c:ContractT) (party:Int) (L:List PosT) (e:PosT) (ms:List Int) (T:List MoveT):Prop:=T.map (·.step)=ms∧∀ t∈T,0≤t.to∧L[t.to.toNat]?=some (target c e t.step)
theorem get_app {α:Type} {L r:List α} {i:Nat} {x:α} (h:L[i]?=some x):(L++r)[i]?=some x:=by
  rw [List.getElem?_append_left (List.getElem?_eq_some_iff.1 h).1];exact h
theorem MvOk.app {c:ContractT} {party:Int} {L:List PosT} {e:PosT} {ms:List Int} {T:List MoveT} (h:MvOk c party L e ms T) (r:List PosT):MvOk c party (L++r) e ms T:=
  ⟨h.1,fun t ht=>⟨(h.2 t ht).1,get_app (h.2 t ht).2⟩⟩
end Go.Proofs.YtjkljacdbljkpaaGreatDoor
namespace Go.Proofs.YtjkljacdbljkpaaGreatDoor
open Go.RowKit
set_option linter.unusedVariables false
set_option linter.unusedSimpArgs false
set_option maxRecDepth 100000
theorem moves_len {c:ContractT} (hc:c.Ok) {party:Int} {e:PosT} (he:VS c e.state):(movesL c party e).length≤62:=by
  have sm:=small_of (hc.off.lt (by omega)) he.cv
  have sa:=sm.acts
  have:=actsL_len c party e c.acts.length
  unfold movesL
  cases e.own<;>cases decide (c.days≤e.state.day)<;>simp<;>omega
structure FromOk (c:ContractT) (party:Int) (p:PosT) (L:List PosT) (M:List (List MoveT)):Prop where
  inv:PInv c party p L
  first:L[0]?=some p
  len:M.length=L.length
  mv:∀ (j:Nat) (T:List MoveT) (e:PosT),M[j]?=some T→L[j]?=some e→MvOk c party L e (movesL c party e) T
  chk:chkAll 0 1 M=some L.length
structure FInv (c:ContractT) (party:Int) (p:PosT) (s:Int×(List PosT)×(List (List MoveT))×(List (ByteArray×Int))):Prop where
  i:s.1=(s.2.2.1.length:Int)
  le:s.2.2.1.length≤s.2.1.length
  inv:PInv c party p s.2.1
  rel:FRel c s.2.2.2 s.2.1
  first:s.2.1[0]?=some p
  mv:∀ (j:Nat) (T:List MoveT) (e:PosT),s.2.2.1[j]?=some T→s.2.1[j]?=some e→MvOk c party s.2.1 e (movesL c party e) T
  chk:chkAll 0 1 s.2.2.1=some s.2.1.length
end Go.Proofs.YtjkljacdbljkpaaGreatDoor
namespace Go.Proofs.YtjkljacdbljkpaaGreatDoor
open Go.RowKit
set_option linter.unusedVariables false
set_option linter.unusedSimpArgs false
set_option maxRecDepth 100000
theorem FromOk.closed {c:ContractT} {party:Int} {p:PosT} {L:List PosT} {M:List (List MoveT)} (F:FromOk c party p L M) {q:PosT} (hq:q∈L) {m:Int} (hm:m∈movesL c party q):target c q m∈L:=by
  obtain ⟨j,hj,e⟩:=List.getElem_of_mem hq
  have hjM:j < M.length:=by rw [F.len];exact hj
  have h:=F.mv j M[j] q (List.getElem?_eq_getElem hjM) (by rw [List.getElem?_eq_getElem hj,e])
  rw [←h.1] at hm
  obtain ⟨t,ht,rfl⟩:=List.mem_map.1 hm
  exact List.mem_of_getElem? (h.2 t ht).2
theorem FromOk.rch {c:ContractT} {party:Int} {p:PosT} {L:List PosT} {M:List (List MoveT)} (F:FromOk c party p L M) {q x:PosT} (hq:q∈L) (h:Rch c party q x):x∈L:=by
  induction h with
  | base=>exact hq
  | step _ hm ih=>exact F.closed ih hm
end Go.Proofs.YtjkljacdbljkpaaGreatDoor
namespace Go.Proofs.YtjkljacdbljkpaaGreatDoor
open Go.RowKit
set_option linter.unusedVariables false
set_option linter.unusedSimpArgs false
set_option maxRecDepth 100000
def at_ (l:List Int) (i:Nat):Int:=l[i]?.getD 0
def cst (l:List Nat):List Int:=l.map fun x:Nat=>(x:Int)
theorem cst_len (l:List Nat):(cst l).length=l.length:=List.length_map _
theorem cst_app (l m:List Nat):cst (l++m)=cst l++cst m:=List.map_append
def badB (c:ContractT) (party:Int) (marks:List MarkT) (i:Nat):Bool:=match c.clauses[i]?,marks[i]? with
  | some k,some m=>k.final&&((m.status == 4)&&(m.bearer == party))
  | _,_=>false
def lostB (c:ContractT) (s:StateT) (party:Int):Bool := !((List.range s.marks.length).all fun i => !badB c party s.marks i)
theorem lost_loop (c:ContractT) (s:StateT) (party:Int) (hl:s.marks.length=c.clauses.length) (hs:s.marks.length < 4611686018427387904) :
    (forR (σ:=Unit) (ρ:=Unit) (s.marks.length:Int) (fun i1 s1=>(Option.bind (idxI s.marks (i1:Int)) fun e1=>(Option.bind (Option.bind (idxI c.clauses (i1:Int)) fun e2=>(bif e2.final then (bif (e1.status == 4) then some (e1.bearer == party) else some false) else some false)) fun v1=>(bif v1 then some (.inr ()) else some (.inl ()))))) ()) =
      some (bif lostB c s party then .inr () else .inl ()):=by
  rw [forR_allN (fun i => !badB c party s.marks i) hs (fun j hj=>by
    have hk:j < c.clauses.length:=by omega
    simp only [idxI_nat',List.getElem?_eq_getElem hj,List.getElem?_eq_getElem hk,Option.bind_some,badB]
    cases (c.clauses[j].final)<;>cases (s.marks[j].status == 4)<;>cases (s.marks[j].bearer == party)<;>rfl)]
  unfold lostB
  cases ((List.range s.marks.length).all fun i => !badB c party s.marks i)<;>rfl
theorem s_Breach {c:ContractT} (hc:c.Ok) {s:StateT} (hv:VS c s) {party:Int} (h0:0≤party) (h1:party < c.parties):d_Breach c s party=some (lostB c s party):=by
  have:=(hv.few hc).2.2
  unfold d_Breach
  rw [decide_eq_false (show ¬ party < 0 by omega),decide_eq_false (show ¬ c.parties≤party by omega),s_ValidS c s hc,vsB_of hv]
  simp only [cond_false,Option.bind_some,Bool.not_true]
  rw [lost_loop c s party hv.lm (by omega)]
  cases lostB c s party<;>rfl
def gm (c:ContractT) (a:ArenaT):Gm where
  n:=a.positions.length
  own i:=match a.positions[i]? with | some q=>q.own | none=>false
  lost i:=match a.positions[i]? with | some q=>lostB c q.state a.party | none=>false
  succ i:=match a.moves[i]? with | some T=>T.map fun m=>m.to.toNat | none=>[]
structure ArOk (c:ContractT) (party:Int) (p:PosT) (a:ArenaT):Prop where
  p0:0≤party
  p1:party < c.parties
  pa:a.party=party
  F:FromOk c party p a.positions a.moves
section
variable {c:ContractT} {party:Int} {p:PosT} {a:ArenaT}
theorem ArOk.mv (A:ArOk c party p a) {i:Nat} (hi:i < a.positions.length):∃ T,a.moves[i]?=some T∧MvOk c party a.positions a.positions[i] (movesL c party a.positions[i]) T:=by
  have h:i < a.moves.length:=by rw [A.F.len];exact hi
  exact ⟨a.moves[i],List.getElem?_eq_getElem h,A.F.mv i _ _ (List.getElem?_eq_getElem h) (List.getElem?_eq_getElem hi)⟩
theorem ArOk.succ (A:ArOk c party p a) {i:Nat} (hi:i < a.positions.length) {T:List MoveT} (hT:a.moves[i]?=some T):(gm c a).succ i=T.map fun m=>m.to.toNat:=by
  simp only [gm,hT]
theorem ArOk.to (A:ArOk c party p a) {i:Nat} (hi:i < a.positions.length) {T:List MoveT} (hT:a.moves[i]?=some T) {m:MoveT} (hm:m∈T):0≤m.to∧m.to < a.positions.length:=by
  obtain ⟨T',h1,_,h3⟩:=A.mv hi
  rw [hT] at h1;cases h1
  obtain ⟨h4,h5⟩:=h3 m hm
  have:=(List.getElem?_eq_some_iff.1 h5).1
  omega
theorem ArOk.len (hc:c.Ok) (A:ArOk c party p a) {i:Nat} (hi:i < a.positions.length) {T:List MoveT} (hT:a.moves[i]?=some T):T.length≤62:=by
  obtain ⟨T',h1,h2,_⟩:=A.mv hi
  rw [hT] at h1;cases h1
  have:=moves_len hc (party:=party) (A.F.inv.vs _ (List.getElem_mem hi))
  rw [←List.length_map (f:=fun x:MoveT=>x.step),h2];exact this
theorem ArOk.closed (A:ArOk c party p a):∀ i,i < (gm c a).n→∀ t∈(gm c a).succ i,t < (gm c a).n:=fun i hi t ht=>by
  obtain ⟨T,h1,_⟩:=A.mv hi
  rw [A.succ hi h1] at ht
  obtain ⟨m,hm,rfl⟩:=List.mem_map.1 ht
  have:=A.to hi h1 hm
  show m.to.toNat < a.positions.length
  omega
structure L1 (G:Gm) (i k:Nat) (bef:List (List Int)):Prop where
  len:bef.length=G.n
  row:∀ t,t < G.n→∃ l:List Nat,bef[t]?=some (cst l)∧l.length≤62*i+k∧∀ x,l.count x=if x < i then (G.succ x).count t else if x=i then ((G.succ i).take k).count t else 0
theorem L1.next {G:Gm} {i k:Nat} {bef:List (List Int)} (h:L1 G i k bef) (hk:k=(G.succ i).length) (hl:k≤62):L1 G (i+1) 0 bef:=by
  refine ⟨h.len,fun t ht => ?_⟩
  obtain ⟨l,h1,h2,h3⟩:=h.row t ht
  refine ⟨l,h1,by omega,fun x => ?_⟩
  rw [h3 x]
  by_cases e:x < i
  · rw [if_pos e,if_pos (by omega)]
  · rw [if_neg e]
    by_cases e2:x=i
    · subst e2;rw [if_pos rfl,if_pos (by omega),hk,List.take_length]
    · rw [if_neg e2,if_neg (by omega)]
      split<;>simp
theorem L1.step {G:Gm} {i k:Nat} {bef:List (List Int)} (h:L1 G i k bef) (hn:G.n≤1500) (hi:i < G.n) (hk:k≤62) {to:Nat} (ht:(G.succ i)[k]?=some to) (hto:to < G.n):Ret (nestApp bef G.n (to:Int) (i:Int)) (L1 G i (k+1)):=by
  obtain ⟨l,h1,h2,h3⟩:=h.row to hto
  have e:nestApp bef G.n (to:Int) (i:Int)=some (bef.set to (cst (l++[i]))):=by
    unfold nestApp
    rw [if_pos ⟨by omega,by omega,by omega⟩,Int.toNat_natCast,h1]
    simp only
    rw [if_pos (by rw [cst_len];omega),cst_app];rfl
  refine ⟨_,e,by rw [List.length_set];exact h.len,fun t ht2 => ?_⟩
  have htk:(G.succ i).take (k+1)=(G.succ i).take k++[to]:=by
    obtain ⟨h5,h6⟩:=List.getElem?_eq_some_iff.1 ht
    rw [List.take_succ_eq_append_getElem h5,h6]
  by_cases e2:t=to
  · subst e2
    refine ⟨l++[i],List.getElem?_set_self (by rw [h.len];exact ht2),by simp;omega,fun x => ?_⟩
    rw [List.count_append,h3 x,htk,List.count_append]
    by_cases a1:x < i
    · rw [if_pos a1,if_pos a1,List.count_cons_of_ne (by omega)];simp
    · rw [if_neg a1,if_neg a1]
      by_cases a2:x=i
      · subst a2;rw [if_pos rfl,if_pos rfl];simp
      · rw [if_neg a2,if_neg a2,List.count_cons_of_ne (fun h=>a2 h.symm)];simp
  · obtain ⟨l2,b1,b2,b3⟩:=h.row t ht2
    refine ⟨l2,by rw [List.getElem?_set_ne (Ne.symm e2)];exact b1,by omega,fun x => ?_⟩
    rw [b3 x,htk,List.count_append,List.count_cons_of_ne (Ne.symm e2)];simp
structure L2 (G:Gm) (i:Nat) (s:List Int×List Int×List (List Int)×List Int):Prop where
  lr:s.1.length=G.n
  lo:s.2.1.length=G.n
  bef:L1 G i 0 s.2.2.1
  r:∀ j,j < i→at_ s.1 j=if G.lost j=true then 0 else -1
  o:∀ j,j < i→at_ s.2.1 j=((G.succ j).length:Int)
  k:s.2.2.2=cst ((List.range i).filter G.lost)
end
end Go.Proofs.YtjkljacdbljkpaaGreatDoor
namespace Go.Proofs.YtjkljacdbljkpaaGreatDoor
open Go.RowKit
set_option linter.unusedVariables false
set_option linter.unusedSimpArgs false
set_option maxRecDepth 100000
section
variable {c:ContractT} {party:Int} {p:PosT} {a:ArenaT}
def Bnd (G:Gm) (r:Nat→Int) (m:Nat):Prop:=∀ i,i < G.n→r i≤m
end
end Go.Proofs.YtjkljacdbljkpaaGreatDoor
namespace Go.Proofs.YtjkljacdbljkpaaGreatDoor
open Go.RowKit
set_option linter.unusedVariables false
set_option linter.unusedSimpArgs false
set_option maxRecDepth 100000
section
variable {c:ContractT} {party:Int} {p:PosT} {a:ArenaT}
def tipB (G:Gm) (i:Nat):Bool:=G.own i&&(!(G.lost i)&&(G.succ i).isEmpty)
def r2 (G:Gm) (i j:Nat):Int:=if G.lost j=true then 0 else if tipB G j=true∧j < i then 1 else -1
def K2 (G:Gm) (i:Nat):List Nat:=(List.range G.n).filter G.lost++(List.range i).filter (tipB G)
structure L3 (G:Gm) (i:Nat) (s:List Int×List Int):Prop where
  lr:s.1.length=G.n
  r:∀ j,j < G.n→at_ s.1 j=r2 G i j
  k:s.2=cst (K2 G i)
structure QI (G:Gm) (bef:List (List Int)) (s:Int×Bool×List Int×List Int×List Int×Int):Prop where
  lr:s.2.2.1.length=G.n
  lo:s.2.2.2.1.length=G.n
  inv:∃ P Q,BInv G (at_ s.2.2.1) (at_ s.2.2.2.1) P Q∧Bnd G (at_ s.2.2.1) (P++Q).length∧s.2.2.2.2.1=cst (P++Q)∧((s.2.1=false∧Q=[]∧s.2.2.2.2.2=(P.length:Int))∨(s.2.1=true∧∃ u Q',Q=u::Q'∧s.1=(u:Int)∧s.2.2.2.2.2=(P.length:Int)+1))
end
end Go.Proofs.YtjkljacdbljkpaaGreatDoor
namespace Go.Proofs.YtjkljacdbljkpaaGreatDoor
open Go.RowKit
set_option linter.unusedVariables false
set_option linter.unusedSimpArgs false
set_option maxRecDepth 100000
theorem StartP.get {c:ContractT} {hs:List Int} {ms r:List MarkT} (h:StartP c hs ms r) {i:Nat} {m:MarkT} (hi:i < c.clauses.length) (hm:ms[i]?=some m) (h0:m.status≠0):r[i]?=some m:=by
  have hl:i < r.length:=by rw [h.ok.1];exact hi
  rw [List.getElem?_eq_getElem hl]
  rcases h.rel i m r[i] hm (List.getElem?_eq_getElem hl) with e | ⟨e,_⟩
  · rw [e]
  · exact absurd e h0
theorem lostB_iff {c:ContractT} {s:StateT} {party:Int}:lostB c s party=true↔∃ (i:Nat) (k:ClauseT) (m:MarkT),c.clauses[i]?=some k∧s.marks[i]?=some m∧k.final=true∧m.status=4∧m.bearer=party:=by
  unfold lostB
  rw [Bool.not_eq_true',List.all_eq_false]
  constructor
  · rintro ⟨i,hi,h⟩
    simp only [Bool.not_eq_true',Bool.not_eq_false,badB] at h
    split at h
    · rename_i k m hk hm
      simp only [Bool.and_eq_true,beq_iff_eq] at h
      exact ⟨i,k,m,hk,hm,h.1,h.2.1,h.2.2⟩
    · cases h
  · rintro ⟨i,k,m,hk,hm,h1,h2,h3⟩
    refine ⟨i,List.mem_range.2 (List.getElem?_eq_some_iff.1 hm).1,?_⟩
    simp [badB,hk,hm,h1,h2,h3]
end Go.Proofs.YtjkljacdbljkpaaGreatDoor
namespace Go.Proofs.YtjkljacdbljkpaaGreatDoor
open Go.RowKit
set_option linter.unusedVariables false
set_option linter.unusedSimpArgs false
set_option maxRecDepth 100000
section
variable {c:ContractT} {party:Int} {p:PosT} {a:ArenaT}
theorem ArOk.lost (A:ArOk c party p a) {i:Nat} (hi:i < a.positions.length):(gm c a).lost i=lostB c a.positions[i].state party:=by
  show (match a.positions[i]? with | some q=>lostB c q.state a.party | none=>false)=_
  rw [List.getElem?_eq_getElem hi,A.pa]
theorem ArOk.own (A:ArOk c party p a) {i:Nat} (hi:i < a.positions.length):(gm c a).own i=a.positions[i].own:=by
  show (match a.positions[i]? with | some q=>q.own | none=>false)=_
  rw [List.getElem?_eq_getElem hi]
theorem ArOk.pos (A:ArOk c party p a):0 < a.positions.length:=(List.getElem?_eq_some_iff.1 A.F.first).1
theorem ArOk.ne (A:ArOk c party p a) {i:Nat} (hi:i < a.positions.length) {T:List MoveT} (hT:a.moves[i]?=some T) (ho:a.positions[i].own=true):T≠[]:=by
  obtain ⟨T',h1,h2,_⟩:=A.mv hi
  rw [hT] at h1;cases h1
  intro e
  subst e
  have:(-2:Int)∈movesL c party a.positions[i]:=mem_moves.2 (.inl ⟨ho,rfl⟩)
  rw [←h2] at this;cases this
end
end Go.Proofs.YtjkljacdbljkpaaGreatDoor
namespace Go.Proofs.YtjkljacdbljkpaaGreatDoor
open Go.RowKit
set_option linter.unusedVariables false
set_option linter.unusedSimpArgs false
set_option maxRecDepth 100000
def AttrP (c:ContractT) (party:Int):Nat→PosT→Prop
  | 0,q=>lostB c q.state party=true
  | k+1,q=>lostB c q.state party=true∨(q.own=true∧∀ m∈movesL c party q,AttrP c party k (target c q m))∨(q.own=false∧∃ m∈movesL c party q,AttrP c party k (target c q m))
def SafeP (c:ContractT) (party:Int) (q:PosT):Prop:=∀ k,¬ AttrP c party k q
theorem AttrP.zero {c:ContractT} {party:Int} {q:PosT} (h:lostB c q.state party=true):∀ k,AttrP c party k q
  | 0=>h
  | k+1=>.inl h
theorem AttrP.succ1 {c:ContractT} {party:Int}:∀ {k:Nat} {q:PosT},AttrP c party k q→AttrP c party (k+1) q
  | 0,q,h=>.inl h
  | k+1,q,h=>by
    rcases h with h | ⟨h1,h2⟩ | ⟨h1,t,h2,h3⟩
    · exact .inl h
    · exact .inr (.inl ⟨h1,fun t ht=>(h2 t ht).succ1⟩)
    · exact .inr (.inr ⟨h1,t,h2,h3.succ1⟩)
theorem AttrP.mono {c:ContractT} {party:Int} {k k':Nat} {q:PosT} (hk:k≤k') (h:AttrP c party k q):AttrP c party k' q:=by
  induction hk with
  | refl=>exact h
  | step _ ih=>exact ih.succ1
section
variable {c:ContractT} {party:Int} {p:PosT} {a:ArenaT}
def RankP (c:ContractT) (party:Int) (q:PosT) (x:Int):Prop := -1≤x∧∀ k:Nat,(x ≠ -1∧x≤k)↔AttrP c party k q
theorem RankP.safe {q:PosT} {x:Int} (h:RankP c party q x):x = -1↔SafeP c party q:=by
  constructor
  · intro e k hk
    exact ((h.2 k).2 hk).1 e
  · intro hs
    have:=h.1
    by_cases e:x = -1
    · exact e
    · exact absurd ((h.2 x.toNat).1 ⟨e,by omega⟩) (hs _)
end
end Go.Proofs.YtjkljacdbljkpaaGreatDoor
namespace Go.Proofs.YtjkljacdbljkpaaGreatDoor
open Go.RowKit
set_option linter.unusedVariables false
set_option linter.unusedSimpArgs false
set_option maxRecDepth 100000
section
variable {c:ContractT} {ρ:Nat→Nat}
abbrev prt (c:ContractT) (ρ:Nat→Nat) (r:Nat):List Int:=memb ρ r c.clauses.length
theorem memb_inc (ρ:Nat→Nat) (r n:Nat):(memb ρ r n).Pairwise (· < ·):=by
  unfold memb
  rw [List.pairwise_map]
  exact (List.Pairwise.sublist List.filter_sublist List.pairwise_lt_range).imp fun h=>by omega
theorem prt_ok (hc:c.Ok) (hv:(validR c).1=0) (R:RootsOf c ρ) (r:Nat):∃ ks,PartOk c (prt c ρ r) ks:=by
  have ho:=hc.off.lt (by omega:0 < 8)
  have sm:=small_of ho hv
  obtain ⟨ks,hks⟩:=mapO_some (g:=selK c (prt c ρ r)) (l:=prt c ρ r) (fun x hx=>by
    obtain ⟨x0,x1,x2⟩:=memb_mem.1 hx
    have hk:=List.getElem?_eq_getElem (show x.toNat < c.clauses.length by omega)
    obtain ⟨st,hst⟩:=mapO_some (g:=condP (prt c ρ r)) (l:=c.clauses[x.toNat].start) (fun y hy=>by
      have hcd:=sm.cond _ _ hk y hy
      have hm:y.clause∈prt c ρ r:=memb_mem.2 ⟨by omega,by omega,by rw [←x2];exact (R.start _ _ hk y hy).symm⟩
      unfold condP posI
      rw [if_pos hm]
      exact ⟨_,rfl⟩)
    refine ⟨({c.clauses[x.toNat] with start:=st}:ClauseT),?_⟩
    unfold selK
    have e:idxI c.clauses x=some c.clauses[x.toNat]:=(idxI_lt x0 (by omega)).2
    rw [e]
    simp only [Option.bind_some,hst,Option.map_some])
  exact ⟨ks,hv,incB_of (fun x hx=>by obtain ⟨x0,x1,_⟩:=memb_mem.1 hx;omega) (memb_inc ρ r _),hks⟩
theorem lost_part {s:StateT} (hv:VS c s) {P:List Int} {ks:List ClauseT} (h:PartOk c P ks) {party:Int}:lostB (cp c ks) (rs P s) party=true↔∃ (i:Nat) (k:ClauseT) (m:MarkT),(i:Int)∈P∧c.clauses[i]?=some k∧s.marks[i]?=some m∧k.final=true∧m.status=4∧m.bearer=party:=by
  have hpo:=h.pos
  have hlm:=hv.lm
  rw [lostB_iff]
  constructor
  · rintro ⟨p,k',m,hk',hm,g⟩
    have hk':ks[p]?=some k':=hk'
    have hp:p < P.length:=by rw [←hpo.len];exact (List.getElem?_eq_some_iff.1 hk').1
    obtain ⟨x,k,st,e1,e2,e3,e4⟩:=hpo.at_ p hp
    rw [e4] at hk'
    cases hk'
    have hm:(rsM P s.marks)[p]?=some m:=hm
    rw [rsM_get e1 (by have:=(List.getElem?_eq_some_iff.1 e2).1;omega)] at hm
    exact ⟨x,k,m,List.mem_of_getElem? e1,e2,hm,g⟩
  · rintro ⟨x,k,m,hx,hk,hm,g⟩
    obtain ⟨p,hp,e⟩:=List.getElem_of_mem hx
    obtain ⟨x',k2,st,e1,e2,e3,e4⟩:=hpo.at_ p hp
    rw [List.getElem?_eq_getElem hp,e] at e1
    have:x=x':=by have:=Option.some.inj e1;omega
    subst this
    rw [hk] at e2
    cases e2
    refine ⟨p,_,m,e4,?_,g⟩
    show (rsM P s.marks)[p]?=some m
    rw [rsM_get (by rw [List.getElem?_eq_getElem hp,e]) (List.getElem?_eq_some_iff.1 hm).1]
    exact hm
theorem lost_parts (hc:c.Ok) (R:RootsOf c ρ) {s:StateT} (hv:VS c s) {party:Int}:lostB c s party=true↔∃ r ks,r < c.clauses.length∧ρ r=r∧PartOk c (prt c ρ r) ks∧lostB (cp c ks) (rs (prt c ρ r) s) party=true:=by
  constructor
  · intro h
    obtain ⟨x,k,m,hk,hm,g⟩:=lostB_iff.1 h
    have hx:=(List.getElem?_eq_some_iff.1 hk).1
    obtain ⟨ks,hks⟩:=prt_ok hc hv.cv R (ρ x)
    exact ⟨ρ x,ks,by have:=R.fn.le x hx;omega,R.fn.idem x hx,hks,(lost_part hv hks).2 ⟨x,k,m,memb_mem.2 ⟨by omega,by omega,by simp⟩,hk,hm,g⟩⟩
  · rintro ⟨r,ks,_,_,hks,h⟩
    obtain ⟨x,k,m,_,hk,hm,g⟩:=(lost_part hv hks).1 h
    exact lostB_iff.2 ⟨x,k,m,hk,hm,g⟩
end
end Go.Proofs.YtjkljacdbljkpaaGreatDoor
namespace Go.Proofs.YtjkljacdbljkpaaGreatDoor
open Go.RowKit
set_option linter.unusedVariables false
set_option linter.unusedSimpArgs false
set_option maxRecDepth 100000
theorem s_ok23 {c:ContractT} (hc:c.Ok) (s:StateT):d_ok23 c s=some (tameB c&&fewS s):=by
  unfold d_ok23
  rw [s_Tame hc,s_Few15]
  simp only [Option.bind_some]
  cases tameB c<;>rfl
section
variable {c:ContractT} {ρ:Nat→Nat} {party:Int} {p:PosT}
theorem s_restricted (hc:c.Ok) {s:StateT} (hv:VS c s) {P:List Int} (hr:∀ x∈P,0≤x∧x < c.clauses.length) (hl:P.length≤400):d_restricted P s=some (rs P s):=by
  have hf:=hv.few hc
  have hlm:=hv.lm
  unfold d_restricted
  rw [cloneI_of (by omega),cloneI_of (by omega)]
  simp only [Option.bind_some]
  rw [forR_map (st:=fun l=>l) P (fun i=>s.marks[i.toNat]?.getD default) (by omega) (fun i hi=>by
    obtain ⟨x0,x1⟩:=hr _ (List.getElem_mem hi)
    obtain ⟨h1,h2⟩:=idxI_lt (l:=s.marks) (n:=P[i]) x0 (by omega)
    simp only [idxI_nat',List.getElem?_eq_getElem hi,Option.bind_some,h2]
    rw [appI_of (by simp;omega)]
    simp only [Option.bind_some,List.getElem?_eq_getElem h1,Option.getD_some]) rfl]
  rfl
theorem parts_at {i:Nat} (hi:i < (partsL ρ c.clauses.length).length):∃ r,r < c.clauses.length∧ρ r=r∧(partsL ρ c.clauses.length)[i]=prt c ρ r:=by
  unfold partsL at hi ⊢
  rw [List.length_map] at hi
  rw [List.getElem_map]
  have:=rootsB_mem.1 (List.getElem_mem hi)
  exact ⟨_,this.1,this.2,rfl⟩
theorem parts_len:(partsL ρ c.clauses.length).length≤c.clauses.length:=by
  unfold partsL rootsB
  rw [List.length_map]
  have:=List.length_filter_le (fun x=>ρ x == x) (List.range c.clauses.length)
  simpa using this
theorem prt_len (r:Nat):(prt c ρ r).length≤c.clauses.length:=by
  show (memb ρ r c.clauses.length).length≤_
  unfold memb
  rw [List.length_map]
  have:=List.length_filter_le (fun x=>ρ x == r) (List.range c.clauses.length)
  simpa using this
theorem s_PartC (hc:c.Ok) {P:List Int} {ks:List ClauseT} (hl:P.length≤400) (h:PartOk c P ks):d_Part c P=some (cp c ks,0):=by
  rw [s_Part c P (hc.off.lt (by omega)) (fun k hk=>(hc.clauses.2 k hk).start.lt (by omega)) (by omega),h.eq]
theorem s_CompC (hc:c.Ok) (hv:(validR c).1=0):∃ ρ,RootsOf c ρ∧d_Components c=some (partsL ρ c.clauses.length):=
  s_Components c (hc.off.lt (by omega)) (fun k hk=>(hc.clauses.2 k hk).start.lt (by omega)) hv
end
end Go.Proofs.YtjkljacdbljkpaaGreatDoor
namespace Go.Proofs.YtjkljacdbljkpaaGreatDoor
set_option linter.unusedVariables false
set_option linter.unusedSimpArgs false
set_option maxRecDepth 100000
def Le {α:Type} (x y:Option α):Prop:=∀ r,x=some r→y=some r
theorem Le.refl {α:Type} (x:Option α):Le x x:=fun _ h=>h
theorem Le.bind {α β:Type} {x y:Option α} {f g:α→Option β} (h:Le x y) (hf:∀ a,Le (f a) (g a)):Le (x.bind f) (y.bind g):=fun r hr=>by
  obtain ⟨a,h1,h2⟩:=Option.bind_eq_some_iff.1 hr
  rw [h a h1];exact hf a r h2
theorem Le.cond {α:Type} (b:Bool) {x y x' y':Option α} (h1:Le x x') (h2:Le y y'):Le (bif b then x else y) (bif b then x' else y'):=by
  cases b
  · exact h2
  · exact h1
theorem Le.elim {α β γ:Type} {f f':α→Option γ} {g g':β→Option γ} (h1:∀ a,Le (f a) (f' a)) (h2:∀ a,Le (g a) (g' a)) (o:α ⊕ β):Le (Sum.elim f g o) (Sum.elim f' g' o):=by
  cases o
  · exact h1 _
  · exact h2 _
theorem Le.forFrom {σ ρ:Type} {f g:Nat→σ→Option (σ ⊕ ρ)} (h:∀ i s,Le (f i s) (g i s)):∀ (k i:Nat) (s:σ),Le (forFrom f i k s) (forFrom g i k s)
  | 0,i,s=>Le.refl _
  | k+1,i,s=>fun r hr=>by
    simp only [Go.Proofs.YtjkljacdbljkpaaGreatDoor.forFrom] at hr ⊢
    split at hr
    · cases hr
    · rename_i e;rw [h i s _ e];exact hr
    · rename_i e;rw [h i s _ e];exact Le.forFrom h k (i+1) _ r hr
theorem Le.forR {σ ρ:Type} {f g:Nat→σ→Option (σ ⊕ ρ)} (h:∀ i s,Le (f i s) (g i s)) (n:Int) (s:σ):Le (forR n f s) (forR n g s):=fun r hr=>by
  obtain ⟨h1,h2⟩:=forR_some hr
  rw [forR_pos h1];exact Le.forFrom h _ _ _ r h2
theorem Le.iterN {σ ρ:Type} {f g:σ→Option (σ ⊕ ρ)} (h:∀ s,Le (f s) (g s)):∀ (k:Nat) (s:σ),Le (Go.Proofs.YtjkljacdbljkpaaGreatDoor.iterN f k s) (Go.Proofs.YtjkljacdbljkpaaGreatDoor.iterN g k s)
  | 0,s=>Le.refl _
  | k+1,s=>fun r hr=>by
    simp only [Go.Proofs.YtjkljacdbljkpaaGreatDoor.iterN] at hr ⊢
    split at hr
    · cases hr
    · rename_i e;rw [h s _ e];exact hr
    · rename_i e;rw [h s _ e];exact Le.iterN h k _ r hr
theorem Le.iter {σ ρ:Type} {f g:σ→Option (σ ⊕ ρ)} (h:∀ s,Le (f s) (g s)) (k:Nat) (s:σ):Le (Go.Proofs.YtjkljacdbljkpaaGreatDoor.iterN f k s) (Go.Proofs.YtjkljacdbljkpaaGreatDoor.iter g s):=fun r hr=>iter_some.2 ⟨k,Le.iterN h k s r hr⟩
def edig:Nat→Nat→List UInt8
  | 0,u=>[]
  | f+1,u=>if u < 10 then [UInt8.ofNat (48+u)] else edig f (u / 10)++[UInt8.ofNat (48+u % 10)]
theorem edig_eq:∀ (f u:Nat),u < 10 ^ (f+1)→edig (f+1) u=Lib.decDigits u
  | 0,u,h=>by
    rw [Lib.decDigits]
    simp only [edig]
    rw [if_pos (by omega),dif_pos (by omega)]
  | f+1,u,h=>by
    rw [Lib.decDigits,edig]
    by_cases hu:u < 10
    · rw [if_pos hu,dif_pos hu]
    · rw [if_neg hu,dif_neg hu,edig_eq f (u / 10) (by rw [Nat.pow_succ] at h;omega)]
def smallI (n:Int):Bool:=decide (-1000 < n)&&decide (n < 1000)
def itoaE (n:Int):List UInt8:=if n < 0 then 45::edig 4 n.natAbs else edig 4 n.toNat
theorem itoaE_eq {n:Int} (h:smallI n=true):itoaE n=Lib.itoa n:=by
  simp only [smallI,Bool.and_eq_true,decide_eq_true_eq] at h
  unfold itoaE Lib.itoa
  rw [edig_eq 3 n.natAbs (by omega),edig_eq 3 n.toNat (by omega)]
def numE (n:Int):List UInt8:=itoaE n++[32]
theorem numE_eq {n:Int} (h:smallI n=true):numE n=numT n:=by unfold numE numT;rw [itoaE_eq h]
def markE (m:MarkT):List UInt8:=numE m.status++numE m.left++numE m.got++numE m.bearer++flagT m.paused
def smallM (m:MarkT):Bool:=smallI m.status&&(smallI m.left&&(smallI m.got&&smallI m.bearer))
def textE (p:PosT):List UInt8:=flagT p.own++numE p.state.day++p.state.holders.flatMap numE++p.state.used.flatMap flagT++p.state.marks.flatMap markE
def smallP (p:PosT):Bool:=smallI p.state.day&&(p.state.holders.all smallI&&p.state.marks.all smallM)
theorem flatMap_cong {α β:Type} {f g:α→List β}:∀ {l:List α},(∀ a∈l,f a=g a)→l.flatMap f=l.flatMap g
  | [],_=>rfl
  | a::l,h=>by rw [List.flatMap_cons,List.flatMap_cons,h a List.mem_cons_self,flatMap_cong fun b hb=>h b (List.mem_cons_of_mem _ hb)]
theorem textE_eq {p:PosT} (h:smallP p=true):textE p=textL p:=by
  simp only [smallP,Bool.and_eq_true,List.all_eq_true] at h
  unfold textE textL
  rw [numE_eq h.1,flatMap_cong (f:=numE) (g:=numT) (fun a ha=>numE_eq (h.2.1 a ha)),flatMap_cong (f:=markE) (g:=markT) (fun a ha=>by
    have:=h.2.2 a ha
    simp only [smallM,Bool.and_eq_true] at this
    show numE a.status++numE a.left++numE a.got++numE a.bearer++flagT a.paused=numT a.status++numT a.left++numT a.got++numT a.bearer++flagT a.paused
    rw [numE_eq this.1,numE_eq this.2.1,numE_eq this.2.2.1,numE_eq this.2.2.2])]
theorem small_in {n:Int} (h:smallI n=true):inI64 n=true:=by
  simp only [smallI,inI64,Bool.and_eq_true,decide_eq_true_eq] at h ⊢
  omega
def e_text (p:PosT):Option ByteArray:=bif smallP p&&decide ((textE p).length≤1000000000) then some ⟨(textE p).toArray⟩ else none
theorem le_text (p:PosT):Le (e_text p) (d_text p):=fun r h=>by
  unfold e_text at h
  cases hq:(smallP p&&decide ((textE p).length≤1000000000)) with
  | false=>rw [hq] at h;cases h
  | true=>
    rw [hq] at h
    simp only [Bool.and_eq_true,decide_eq_true_eq] at hq
    have e:=textE_eq hq.1
    unfold d_text
    rw [if_pos,←e]
    · exact h
    · have h1:=hq.1
      simp only [smallP,Bool.and_eq_true,List.all_eq_true] at h1
      simp only [okP,Bool.and_eq_true,decide_eq_true_eq,List.all_eq_true]
      refine ⟨⟨⟨small_in h1.1,fun x hx=>small_in (h1.2.1 x hx)⟩,fun m hm => ?_⟩,by rw [←e];exact hq.2⟩
      have:=h1.2.2 m hm
      simp only [smallM,Bool.and_eq_true] at this
      exact ⟨⟨⟨small_in this.1,small_in this.2.1⟩,small_in this.2.2.1⟩,small_in this.2.2.2⟩
noncomputable def e_69a (p1:ContractT) (p2:Int) (p3:List Int) (p4:Nat) (p5:List Bool) (p6:Nat) (p7:List MarkT) (p8:Nat):Option ((List MarkT)):=
  (Option.bind (iterN (σ:=Bool×(List MarkT)) (ρ:=(List MarkT)) (fun s1=>(bif s1.1 then (Option.bind (forR (σ:=Bool×(List MarkT)) (ρ:=Unit) (p1.clauses.length:Int) (fun i2 s2=>(Option.bind (Option.bind (idxI p1.clauses (i2:Int)) fun e1=>(Option.bind (eqN p4 p3.length) fun g1=>(Option.bind (eqN p6 p5.length) fun g2=>(Option.bind (eqN p8 s2.2.length) fun g3=>(Option.bind (d_ready p1 ({day:=p2,holders:=p3,used:=p5,marks:=s2.2}:StateT) (i2:Int)) fun r1=>(bif r1 then (Option.bind (bif (e1.kind == 4) then some (-1) else (Option.bind (idxN p4 e1.role) fun k1=>(Option.bind (p3[k1]?) fun e2=>some e2))) fun (v1:Int)=>(Option.bind (idxN p8 (i2:Int)) fun k2=>(Option.bind (s2.2[k2]?) fun e3=>some (true,(s2.2.set k2 ({status:=1,left:=e1.after,got:=0,bearer:=v1,paused:=false}:MarkT)))))) else some (s2.1,s2.2))))))) fun (v2:Bool×(List MarkT))=>some (.inl (v2.1,v2.2)))) (false,s1.2)) (Sum.elim (fun (s2:Bool×(List MarkT))=>some (.inl (s2.1,s2.2))) (fun _=>none))) else some (.inr s1.2))) 40 (true,p7)) (fun (y1:(List MarkT))=>some y1))
theorem le_69a (p1:ContractT) (p2:Int) (p3:List Int) (p4:Nat) (p5:List Bool) (p6:Nat) (p7:List MarkT) (p8:Nat):Le (e_69a p1 p2 p3 p4 p5 p6 p7 p8) (d_69a p1 p2 p3 p4 p5 p6 p7 p8):=by
  unfold e_69a d_69a
  repeat' (first | with_reducible exact Le.refl _ | with_reducible refine Le.bind ?_ (fun _ => ?_) | with_reducible refine Le.cond _ ?_ ?_ | with_reducible refine Le.forR (fun _ _ => ?_) _ _ | with_reducible refine Le.iter (fun _ => ?_) _ _ | with_reducible refine Le.elim (fun _ => ?_) (fun _ => ?_) _)
noncomputable def e_Start (c:ContractT):Option (StateT×Int):=
  (Option.bind (d_Valid c) fun r1=>(bif (r1.1 == 0) then (Option.bind (cloneI 8 c.holders) fun e1=>(Option.bind (mkN 1 (c.acts.length:Int)) fun k1=>(Option.bind (mkN 40 (c.clauses.length:Int)) fun k2=>(Option.bind (forR (σ:=(List MarkT)) (ρ:=Unit) (c.clauses.length:Int) (fun i1 s1=>(Option.bind (Option.bind (idxI c.clauses (i1:Int)) fun e2=>(Option.bind (idxN k2 (i1:Int)) fun k3=>(Option.bind (s1[k3]?) fun e3=>(bif e2.waived then (Option.bind (idxN k2 (i1:Int)) fun k4=>(Option.bind ((s1.set k3 ({status:=0,left:=0,got:=0,bearer:=(-1),paused:=false}:MarkT))[k4]?) fun e4=>some ((s1.set k3 ({status:=0,left:=0,got:=0,bearer:=(-1),paused:=false}:MarkT)).set k4 ({e4 with status:=5}:MarkT)))) else some (s1.set k3 ({status:=0,left:=0,got:=0,bearer:=(-1),paused:=false}:MarkT)))))) fun (v1:(List MarkT))=>some (.inl v1))) (List.replicate k2 ({status:=0,left:=0,got:=0,bearer:=0,paused:=false}:MarkT))) (Sum.elim (fun (s1:(List MarkT))=>(Option.bind (e_69a c 0 e1 e1.length (List.replicate k1 false) k1 s1 k2) fun r2=>(Option.bind (eqN k1 (List.replicate k1 false).length) fun g1=>(Option.bind (eqN k2 r2.length) fun g2=>some (({day:=0,holders:=e1,used:=(List.replicate k1 false),marks:=r2}:StateT),0))))) (fun _=>none)))))) else some (({day:=0,holders:=[],used:=[],marks:=[]}:StateT),1)))
theorem le_Start (c:ContractT):Le (e_Start c) (d_Start c):=by
  unfold e_Start d_Start
  repeat' (first | with_reducible exact Le.refl _ | with_reducible exact le_69a _ _ _ _ _ _ _ _ | with_reducible refine Le.bind ?_ (fun _ => ?_) | with_reducible refine Le.cond _ ?_ ?_ | with_reducible refine Le.forR (fun _ _ => ?_) _ _ | with_reducible refine Le.iter (fun _ => ?_) _ _ | with_reducible refine Le.elim (fun _ => ?_) (fun _ => ?_) _)
noncomputable def e_BinarySearch (l:List Int) (v:Int):Option (Int×Bool):=
  (Option.bind (Option.bind (iterN (σ:=Int×Int) (ρ:=Int) (fun s1=>(bif decide (s1.1 < s1.2) then (Option.bind (shrI .u64 .u64 (IntKind.u64.wrap (IntKind.i64.wrap (s1.1+s1.2))) 1) fun e1=>(Option.bind (idxI l (IntKind.i64.wrap e1)) fun e2=>(Option.bind (d_less e2 v) fun r1=>(bif r1 then some (.inl ((IntKind.i64.wrap ((IntKind.i64.wrap e1)+1)),s1.2)) else some (.inl (s1.1,(IntKind.i64.wrap e1))))))) else some (.inr s1.1))) 40 (0,(l.length:Int))) (fun (y1:Int)=>some y1)) fun (v1:Int)=>(Option.bind (bif decide (v1 < (l.length:Int)) then (Option.bind (idxI l v1) fun e3=>(bif (e3 == v) then some true else (Option.bind (d_isNaN e3) fun r2=>(bif r2 then (Option.bind (d_isNaN v) fun r3=>some r3) else some false)))) else some false) fun v2=>some (v1,v2)))
theorem le_BinarySearch (l:List Int) (v:Int):Le (e_BinarySearch l v) (d_BinarySearch l v):=by
  unfold e_BinarySearch d_BinarySearch
  repeat' (first | with_reducible exact Le.refl _ | with_reducible refine Le.bind ?_ (fun _ => ?_) | with_reducible refine Le.cond _ ?_ ?_ | with_reducible refine Le.forR (fun _ _ => ?_) _ _ | with_reducible refine Le.iter (fun _ => ?_) _ _ | with_reducible refine Le.elim (fun _ => ?_) (fun _ => ?_) _)
noncomputable def e_70a (p1:ContractT) (p2:Int) (p3:List Int) (p4:Nat) (p5:List Bool) (p6:Nat) (p7:List MarkT) (p8:Nat):Option ((List MarkT)):=
  (Option.bind (e_BinarySearch p1.off p2) fun r1=>(Option.bind (Option.bind (d_66a p1 p2 p3 p4 p5 p6 p7 p8) fun r2=>(Option.bind (forR (σ:=(List MarkT)) (ρ:=(List MarkT)) (p8:Int) (fun i1 s1=>(Option.bind (Option.bind (idxN p8 (i1:Int)) fun k1=>(Option.bind (s1[k1]?) fun e1=>(Option.bind (d_running e1) fun r3=>(bif r3 then (Option.bind (Option.bind (idxI p1.clauses (i1:Int)) fun e2=>(Option.bind (Option.bind (idxN p8 (i1:Int)) fun k2=>(Option.bind (s1[k2]?) fun e3=>(bif e3.paused then some true else (bif e2.business then some r1.2 else some false)))) fun v1=>(bif v1 then some s1 else (Option.bind (idxN p8 (i1:Int)) fun k3=>(Option.bind (s1[k3]?) fun e4=>(Option.bind (idxN p8 (i1:Int)) fun k4=>(Option.bind ((s1.set k3 ({e4 with left:=(IntKind.i64.wrap (e4.left - 1))}:MarkT))[k4]?) fun e5=>(bif (e5.left == 0) then (Option.bind (bif (e2.kind == (0:Int)) then none else (bif (e2.kind == (1:Int)) then (Option.bind (d_63a (i1:Int) p1 p2 p3 p4 p5 p6 (s1.set k3 ({e4 with left:=(IntKind.i64.wrap (e4.left - 1))}:MarkT)) p8) fun r7=>some r7) else (bif (e2.kind == (2:Int)) then (Option.bind (d_61a (i1:Int) p1 p2 p3 p4 p5 p6 (s1.set k3 ({e4 with left:=(IntKind.i64.wrap (e4.left - 1))}:MarkT)) p8) fun r6=>some r6) else (bif (e2.kind == (3:Int)) then (Option.bind (d_64a (i1:Int) p1 p2 p3 p4 p5 p6 (s1.set k3 ({e4 with left:=(IntKind.i64.wrap (e4.left - 1))}:MarkT)) p8) fun r5=>some r5) else (bif (e2.kind == (4:Int)) then (Option.bind (d_64a (i1:Int) p1 p2 p3 p4 p5 p6 (s1.set k3 ({e4 with left:=(IntKind.i64.wrap (e4.left - 1))}:MarkT)) p8) fun r4=>some r4) else none))))) fun v2=>some v2) else some (s1.set k3 ({e4 with left:=(IntKind.i64.wrap (e4.left - 1))}:MarkT)))))))))) fun (v3:(List MarkT))=>some ((!true),v3)) else some (false,s1))))) fun (v4:Bool×(List MarkT))=>(bif v4.1 then some (.inr v4.2) else some (.inl v4.2)))) p7) (Sum.elim (fun (s1:(List MarkT))=>some s1) (fun (y1:(List MarkT))=>some y1)))) fun (v5:(List MarkT))=>(Option.bind (e_69a p1 (IntKind.i64.wrap (p2+1)) p3 p4 p5 p6 v5 p8) fun r8=>some r8)))
theorem le_70a (p1:ContractT) (p2:Int) (p3:List Int) (p4:Nat) (p5:List Bool) (p6:Nat) (p7:List MarkT) (p8:Nat):Le (e_70a p1 p2 p3 p4 p5 p6 p7 p8) (d_70a p1 p2 p3 p4 p5 p6 p7 p8):=by
  unfold e_70a d_70a
  repeat' (first | with_reducible exact Le.refl _ | with_reducible exact le_BinarySearch _ _ | with_reducible exact le_69a _ _ _ _ _ _ _ _ | with_reducible refine Le.bind ?_ (fun _ => ?_) | with_reducible refine Le.cond _ ?_ ?_ | with_reducible refine Le.forR (fun _ _ => ?_) _ _ | with_reducible refine Le.iter (fun _ => ?_) _ _ | with_reducible refine Le.elim (fun _ => ?_) (fun _ => ?_) _)
noncomputable def e_60a (p1:Int) (p2:ContractT) (p3:Int) (p4:List Int) (p5:Nat) (p6:List Bool) (p7:Nat) (p8:List MarkT) (p9:Nat):Option ((List Int)×(List Bool)×(List MarkT)):=
  (Option.bind (idxI p2.acts p1) fun e1=>(Option.bind (bif (e1.kind == 1) then some false else (Option.bind (idxN p7 p1) fun k1=>(Option.bind (p6[k1]?) fun e2=>some e2))) fun v1=>(bif v1 then some (p4,p6,p8) else (Option.bind (Option.bind (d_66a p2 p3 p4 p5 p6 p7 p8 p9) fun r1=>(Option.bind (forR (σ:=(List MarkT)) (ρ:=(List MarkT)) (p9:Int) (fun i1 s1=>(Option.bind (Option.bind (idxN p9 (i1:Int)) fun k2=>(Option.bind (s1[k2]?) fun e3=>(Option.bind (d_running e3) fun r2=>(bif r2 then (Option.bind (Option.bind (idxI p2.clauses (i1:Int)) fun e4=>(bif (p1 == e4.pause) then (Option.bind (idxN p9 (i1:Int)) fun k3=>(Option.bind (s1[k3]?) fun e5=>some (s1.set k3 ({e5 with paused:=true}:MarkT)))) else (Option.bind (idxI p2.clauses (i1:Int)) fun e6=>(bif (p1 == e6.resume) then (Option.bind (idxN p9 (i1:Int)) fun k4=>(Option.bind (s1[k4]?) fun e7=>some (s1.set k4 ({e7 with paused:=false}:MarkT)))) else some s1)))) fun (v2:(List MarkT))=>some ((!true),v2)) else some (false,s1))))) fun (v3:Bool×(List MarkT))=>(bif v3.1 then some (.inr v3.2) else some (.inl v3.2)))) p8) (Sum.elim (fun (s1:(List MarkT))=>some s1) (fun (y1:(List MarkT))=>some y1)))) fun (v4:(List MarkT))=>(Option.bind (eqN p5 p4.length) fun g1=>(Option.bind (eqN p7 p6.length) fun g2=>(Option.bind (eqN p9 v4.length) fun g3=>(Option.bind (d_doer p2 ({day:=p3,holders:=p4,used:=p6,marks:=v4}:StateT) p1) fun r3=>(Option.bind (Option.bind (d_66a p2 p3 p4 p5 p6 p7 v4 p9) fun r4=>(Option.bind (forR (σ:=(List MarkT)) (ρ:=(List MarkT)) (p9:Int) (fun i2 s2=>(Option.bind (Option.bind (idxN p9 (i2:Int)) fun k5=>(Option.bind (s2[k5]?) fun e8=>(Option.bind (d_running e8) fun r5=>(bif r5 then (Option.bind (Option.bind (idxI p2.clauses (i2:Int)) fun e9=>(Option.bind (bif (e9.act == p1) then (bif (e9.kind == 4) then some true else (Option.bind (idxN p9 (i2:Int)) fun k6=>(Option.bind (s2[k6]?) fun e10=>some (e10.bearer == r3)))) else some false) fun v5=>(bif v5 then (Option.bind (bif (e9.kind == (0:Int)) then none else (bif (e9.kind == (1:Int)) then (Option.bind (d_65a (i2:Int) p2 p3 p4 p5 p6 p7 s2 p9) fun r9=>some r9) else (bif (e9.kind == (2:Int)) then (Option.bind (d_71a (i2:Int) p2 p3 p4 p5 p6 p7 s2 p9) fun r8=>some r8) else (bif (e9.kind == (3:Int)) then (Option.bind (d_61a (i2:Int) p2 p3 p4 p5 p6 p7 s2 p9) fun r7=>some r7) else (bif (e9.kind == (4:Int)) then (Option.bind (d_61a (i2:Int) p2 p3 p4 p5 p6 p7 s2 p9) fun r6=>some r6) else none))))) fun v6=>some v6) else some s2))) fun (v7:(List MarkT))=>some ((!true),v7)) else some (false,s2))))) fun (v8:Bool×(List MarkT))=>(bif v8.1 then some (.inr v8.2) else some (.inl v8.2)))) v4) (Sum.elim (fun (s2:(List MarkT))=>some s2) (fun (y2:(List MarkT))=>some y2)))) fun (v9:(List MarkT))=>(Option.bind (bif (e1.kind == 1) then some (p4,p6,v9) else (Option.bind (d_68a p1 p2 p3 p4 p5 p6 p7 v9 p9) fun r10=>some (r10.1,r10.2.1,r10.2.2))) fun (v10:(List Int)×(List Bool)×(List MarkT))=>(Option.bind (e_69a p2 p3 v10.1 p5 v10.2.1 p7 v10.2.2 p9) fun r11=>some (v10.1,v10.2.1,r11))))))))))))
theorem le_60a (p1:Int) (p2:ContractT) (p3:Int) (p4:List Int) (p5:Nat) (p6:List Bool) (p7:Nat) (p8:List MarkT) (p9:Nat):Le (e_60a p1 p2 p3 p4 p5 p6 p7 p8 p9) (d_60a p1 p2 p3 p4 p5 p6 p7 p8 p9):=by
  unfold e_60a d_60a
  repeat' (first | with_reducible exact Le.refl _ | with_reducible exact le_69a _ _ _ _ _ _ _ _ | with_reducible refine Le.bind ?_ (fun _ => ?_) | with_reducible refine Le.cond _ ?_ ?_ | with_reducible refine Le.forR (fun _ _ => ?_) _ _ | with_reducible refine Le.iter (fun _ => ?_) _ _ | with_reducible refine Le.elim (fun _ => ?_) (fun _ => ?_) _)
noncomputable def e_Step (c:ContractT) (s:StateT) (step:Int):Option (StateT×Int):=
  (Option.bind (Option.bind (d_ValidS c s) fun r1=>(bif r1 then (bif decide (step < (-1)) then some true else some (decide ((c.acts.length:Int)≤step))) else some true)) fun v1=>(bif v1 then some (({day:=0,holders:=[],used:=[],marks:=[]}:StateT),1) else (bif (s.day == c.days) then some (({day:=0,holders:=[],used:=[],marks:=[]}:StateT),13) else (Option.bind (mkN 8 (s.holders.length:Int)) fun k1=>(Option.bind (mkN 1 (s.used.length:Int)) fun k2=>(Option.bind (mkN 40 (s.marks.length:Int)) fun k3=>(Option.bind (copyI (α:=Int) k1 (List.replicate k1 0) s.holders) fun e1=>(Option.bind (copyI (α:=Bool) k2 (List.replicate k2 false) s.used) fun e2=>(Option.bind (copyI (α:=MarkT) k3 (List.replicate k3 ({status:=0,left:=0,got:=0,bearer:=0,paused:=false}:MarkT)) s.marks) fun e3=>(Option.bind (bif (step == (-1)) then (Option.bind (e_70a c s.day e1 k1 e2 k2 e3 k3) fun r2=>some (e1,e2,r2,(IntKind.i64.wrap (s.day+1)))) else (Option.bind (e_60a step c s.day e1 k1 e2 k2 e3 k3) fun r3=>some (r3.1,r3.2.1,r3.2.2,s.day))) fun (v2:(List Int)×(List Bool)×(List MarkT)×Int)=>(Option.bind (eqN k1 v2.1.length) fun g1=>(Option.bind (eqN k2 v2.2.1.length) fun g2=>(Option.bind (eqN k3 v2.2.2.1.length) fun g3=>some (({day:=v2.2.2.2,holders:=v2.1,used:=v2.2.1,marks:=v2.2.2.1}:StateT),0))))))))))))))
theorem le_Step (c:ContractT) (s:StateT) (step:Int):Le (e_Step c s step) (d_Step c s step):=by
  unfold e_Step d_Step
  repeat' (first | with_reducible exact Le.refl _ | with_reducible exact le_70a _ _ _ _ _ _ _ _ | with_reducible exact le_60a _ _ _ _ _ _ _ _ _ | with_reducible refine Le.bind ?_ (fun _ => ?_) | with_reducible refine Le.cond _ ?_ ?_ | with_reducible refine Le.forR (fun _ _ => ?_) _ _ | with_reducible refine Le.iter (fun _ => ?_) _ _ | with_reducible refine Le.elim (fun _ => ?_) (fun _ => ?_) _)
noncomputable def e_From (c:ContractT) (party:Int) (p:PosT):Option (ArenaT×Int):=
  (Option.bind (d_playable c party p) fun r1=>(bif r1 then (Option.bind (d_copied p.state) fun r2=>(Option.bind (e_text p) fun r3=>(Option.bind (α:=((List PosT)×(List (List MoveT))) ⊕ Unit) (Option.bind (iterN (σ:=Int×(List PosT)×(List (List MoveT))×(List (ByteArray×Int))) (ρ:=((List PosT)×(List (List MoveT))) ⊕ Unit) (fun s1=>(bif decide (s1.1 < (s1.2.1.length:Int)) then (Option.bind (α:=((List PosT)×(List (ByteArray×Int))×(List MoveT)) ⊕ Unit) (Option.bind (idxI s1.2.1 s1.1) fun e1=>(Option.bind (d_78b c party e1) fun r4=>(Option.bind (α:=((List PosT)×(List (ByteArray×Int))×(List MoveT)) ⊕ (Unit ⊕ ((List PosT)×(List (ByteArray×Int))×(List MoveT)))) (bif e1.own then (Option.bind (d_copied e1.state) fun r5=>(Option.bind (e_text ({state:=r5,own:=false}:PosT)) fun r6=>(Option.bind (α:=(Int×(List PosT)×(List (ByteArray×Int))) ⊕ Unit) (bif ((mget r6 s1.2.2.2).isSome) then some (.inl (((mget r6 s1.2.2.2).getD 0),s1.2.1,s1.2.2.2)) else (bif ((s1.2.1.length:Int) == 1500) then some (.inr ()) else (Option.bind (appI (α:=PosT) 88 s1.2.1 [({state:=r5,own:=false}:PosT)]) fun e2=>some (.inl ((s1.2.1.length:Int),e2,(mset r6 (s1.2.1.length:Int) s1.2.2.2)))))) (Sum.elim (fun (v1:Int×(List PosT)×(List (ByteArray×Int)))=>(Option.bind (appI (α:=MoveT) 16 [] [({step:=(-2),to:=v1.1}:MoveT)]) fun e3=>(bif decide (c.days≤e1.state.day) then some (.inr (.inr (v1.2.1,v1.2.2,e3))) else some (.inl (v1.2.1,v1.2.2,e3))))) (fun (y1:Unit)=>some (.inr (.inl ()))))))) else (bif decide (c.days≤e1.state.day) then some (.inr (.inr (s1.2.1,s1.2.2.2,[]))) else some (.inl (s1.2.1,s1.2.2.2,[])))) (Sum.elim (fun (v2:(List PosT)×(List (ByteArray×Int))×(List MoveT))=>(Option.bind (α:=((List PosT)×(List (ByteArray×Int))×(List MoveT)) ⊕ Unit) (bif e1.own then some (.inl (v2.1,v2.2.1,v2.2.2)) else (Option.bind (e_Step c e1.state (-1)) fun r7=>(Option.bind (e_text ({state:=r7.1,own:=true}:PosT)) fun r8=>(Option.bind (α:=(Int×(List PosT)×(List (ByteArray×Int))) ⊕ Unit) (bif ((mget r8 v2.2.1).isSome) then some (.inl (((mget r8 v2.2.1).getD 0),v2.1,v2.2.1)) else (bif ((v2.1.length:Int) == 1500) then some (.inr ()) else (Option.bind (appI (α:=PosT) 88 v2.1 [({state:=r7.1,own:=true}:PosT)]) fun e4=>some (.inl ((v2.1.length:Int),e4,(mset r8 (v2.1.length:Int) v2.2.1)))))) (Sum.elim (fun (v3:Int×(List PosT)×(List (ByteArray×Int)))=>(Option.bind (appI (α:=MoveT) 16 v2.2.2 [({step:=(-1),to:=v3.1}:MoveT)]) fun e5=>some (.inl (v3.2.1,v3.2.2,e5)))) (fun (y4:Unit)=>some (.inr ()))))))) (Sum.elim (fun (v4:(List PosT)×(List (ByteArray×Int))×(List MoveT))=>(Option.bind (forR (σ:=(List PosT)×(List (ByteArray×Int))×(List MoveT)) (ρ:=(List PosT)×(List (ByteArray×Int))×(List MoveT)) (c.acts.length:Int) (fun i2 s2=>(Option.bind (α:=((List PosT)×(List (ByteArray×Int))×(List MoveT)) ⊕ Unit) (Option.bind (idxI c.acts (i2:Int)) fun e6=>(Option.bind (bif (e6.role == (-1)) then some (-1) else (Option.bind (idxI e1.state.holders e6.role) fun e7=>some e7)) fun (v5:Int)=>(bif ((v5 == party) == e1.own) then (Option.bind (e_Step c e1.state (i2:Int)) fun r9=>(Option.bind (d_SameS r9.1 e1.state) fun r10=>(bif r10 then some (.inl (s2.1,s2.2.1,s2.2.2)) else (Option.bind (e_text ({state:=r9.1,own:=true}:PosT)) fun r11=>(Option.bind (α:=(Int×(List PosT)×(List (ByteArray×Int))) ⊕ Unit) (bif ((mget r11 s2.2.1).isSome) then some (.inl (((mget r11 s2.2.1).getD 0),s2.1,s2.2.1)) else (bif ((s2.1.length:Int) == 1500) then some (.inr ()) else (Option.bind (appI (α:=PosT) 88 s2.1 [({state:=r9.1,own:=true}:PosT)]) fun e8=>some (.inl ((s2.1.length:Int),e8,(mset r11 (s2.1.length:Int) s2.2.1)))))) (Sum.elim (fun (v6:Int×(List PosT)×(List (ByteArray×Int)))=>(Option.bind (appI (α:=MoveT) 16 s2.2.2 [({step:=(i2:Int),to:=v6.1}:MoveT)]) fun e9=>some (.inl (v6.2.1,v6.2.2,e9)))) (fun (y6:Unit)=>some (.inr ())))))))) else some (.inl (s2.1,s2.2.1,s2.2.2))))) (Sum.elim (fun (v7:(List PosT)×(List (ByteArray×Int))×(List MoveT))=>some (.inl (v7.1,v7.2.1,v7.2.2))) (fun (y7:Unit)=>some (.inr (s2.1,s2.2.1,s2.2.2)))))) (v4.1,v4.2.1,v4.2.2)) (Sum.elim (fun (s2:(List PosT)×(List (ByteArray×Int))×(List MoveT))=>some (.inl (s2.1,s2.2.1,s2.2.2))) (fun (y8:(List PosT)×(List (ByteArray×Int))×(List MoveT))=>some (.inr ()))))) (fun (y5:Unit)=>some (.inr ()))))) (Sum.elim (fun (y2:Unit)=>some (.inr ())) (fun (y3:(List PosT)×(List (ByteArray×Int))×(List MoveT))=>some (.inl (y3.1,y3.2.1,y3.2.2)))))))) (Sum.elim (fun (v8:(List PosT)×(List (ByteArray×Int))×(List MoveT))=>(Option.bind (appI (α:=List MoveT) 24 s1.2.2.1 [v8.2.2]) fun e10=>some (.inl ((IntKind.i64.wrap (s1.1+1)),v8.1,e10,v8.2.1)))) (fun (y9:Unit)=>some (.inr (.inr ()))))) else some (.inr (.inl (s1.2.1,s1.2.2.1))))) 40 (0,[({state:=r2,own:=p.own}:PosT)],[],(mset r3 0 []))) (Sum.elim (fun (y10:(List PosT)×(List (List MoveT)))=>some (.inl (y10.1,y10.2))) (fun (y11:Unit)=>some (.inr ())))) (Sum.elim (fun (v9:(List PosT)×(List (List MoveT)))=>some (({party:=party,positions:=v9.1,moves:=v9.2}:ArenaT),0)) (fun (y12:Unit)=>some (({party:=0,positions:=[],moves:=[]}:ArenaT),3)))))) else some (({party:=0,positions:=[],moves:=[]}:ArenaT),1)))
theorem le_From (c:ContractT) (party:Int) (p:PosT):Le (e_From c party p) (d_From c party p):=by
  unfold e_From d_From
  repeat' (first | with_reducible exact Le.refl _ | with_reducible exact le_text _ | with_reducible exact le_Step _ _ _ | with_reducible refine Le.bind ?_ (fun _ => ?_) | with_reducible refine Le.cond _ ?_ ?_ | with_reducible refine Le.forR (fun _ _ => ?_) _ _ | with_reducible refine Le.iter (fun _ => ?_) _ _ | with_reducible refine Le.elim (fun _ => ?_) (fun _ => ?_) _)
noncomputable def e_Ranks (c:ContractT) (a:ArenaT):Option (List Int):=
  (Option.bind (d_wellFormed c a) fun r1=>(bif r1 then (Option.bind (mkN 8 (a.positions.length:Int)) fun k1=>(Option.bind (mkN 8 (a.positions.length:Int)) fun k2=>(Option.bind (mkN 24 (a.positions.length:Int)) fun k3=>(Option.bind (forR (σ:=(List Int)×(List Int)×(List (List Int))×(List Int)) (ρ:=Unit) (a.positions.length:Int) (fun i1 s1=>(Option.bind (Option.bind (idxI a.positions (i1:Int)) fun e1=>(Option.bind (idxI a.moves (i1:Int)) fun e2=>(Option.bind (idxN k1 (i1:Int)) fun k4=>(Option.bind (s1.1[k4]?) fun e3=>(Option.bind (idxN k2 (i1:Int)) fun k5=>(Option.bind (s1.2.1[k5]?) fun e4=>(Option.bind (idxI a.moves (i1:Int)) fun e5=>(Option.bind (forR (σ:=(List (List Int))) (ρ:=Unit) (e5.length:Int) (fun i2 s2=>(Option.bind (idxI e5 (i2:Int)) fun e6=>(Option.bind (nestApp s2 k3 e6.to (i1:Int)) fun v1=>some (.inl v1)))) s1.2.2.1) (Sum.elim (fun (s2:(List (List Int)))=>(Option.bind (d_lost c e1.state a.party) fun r2=>(bif r2 then (Option.bind (idxN k1 (i1:Int)) fun k6=>(Option.bind ((s1.1.set k4 (-1))[k6]?) fun e7=>(Option.bind (d_136b (i1:Int) s1.2.2.2 0) fun r3=>some (((s1.1.set k4 (-1)).set k6 0),(s1.2.1.set k5 (e2.length:Int)),s2,r3)))) else some ((s1.1.set k4 (-1)),(s1.2.1.set k5 (e2.length:Int)),s2,s1.2.2.2)))) (fun _=>none)))))))))) fun (v2:(List Int)×(List Int)×(List (List Int))×(List Int))=>some (.inl (v2.1,v2.2.1,v2.2.2.1,v2.2.2.2)))) ((List.replicate k1 0),(List.replicate k2 0),(List.replicate k3 []),[])) (Sum.elim (fun (s1:(List Int)×(List Int)×(List (List Int))×(List Int))=>(Option.bind (forR (σ:=(List Int)×(List Int)) (ρ:=Unit) (a.positions.length:Int) (fun i3 s3=>(Option.bind (Option.bind (idxI a.positions (i3:Int)) fun e8=>(Option.bind (bif e8.own then (Option.bind (idxN k2 (i3:Int)) fun k7=>(Option.bind (s1.2.1[k7]?) fun e9=>(bif (e9 == 0) then (Option.bind (idxN k1 (i3:Int)) fun k8=>(Option.bind (s3.1[k8]?) fun e10=>some (e10 == (-1)))) else some false))) else some false) fun v3=>(bif v3 then (Option.bind (d_134a (i3:Int) 1 s3.1 k1 s3.2 0) fun r4=>some (r4.2,r4.1)) else some (s3.1,s3.2)))) fun (v4:(List Int)×(List Int))=>some (.inl (v4.1,v4.2)))) (s1.1,s1.2.2.2)) (Sum.elim (fun (s3:(List Int)×(List Int))=>(Option.bind (Option.bind (d_137a s3.2 0) fun r5=>(Option.bind (iterN (σ:=Int×Bool×(List Int)×(List Int)×(List Int)×Int) (ρ:=(List Int)) (fun s4=>(bif s4.2.1 then (Option.bind (idxN k3 s4.1) fun k9=>(Option.bind (s1.2.2.1[k9]?) fun e11=>(Option.bind (forR (σ:=(List Int)×(List Int)×(List Int)) (ρ:=Unit) (e11.length:Int) (fun i5 s5=>(Option.bind (idxI e11 (i5:Int)) fun e12=>(Option.bind (d_135a e12 s4.1 s5.2.1 k2 s5.1 k1 a s5.2.2 s4.2.2.2.2.2) fun r6=>some (.inl (r6.2.1,r6.1,r6.2.2))))) (s4.2.2.1,s4.2.2.2.1,s4.2.2.2.2.1)) (Sum.elim (fun (s5:(List Int)×(List Int)×(List Int))=>(Option.bind (d_137a s5.2.2 s4.2.2.2.2.2) fun r7=>some (.inl (r7.1,r7.2.1,s5.1,s5.2.1,s5.2.2,r7.2.2)))) (fun _=>none))))) else some (.inr s4.2.2.1))) 40 (r5.1,r5.2.1,s3.1,s1.2.1,s3.2,r5.2.2)) (fun (y1:(List Int))=>some y1))) fun (v5:(List Int))=>(Option.bind (eqN k1 v5.length) fun g1=>some v5))) (fun _=>none)))) (fun _=>none)))))) else some []))
theorem le_Ranks (c:ContractT) (a:ArenaT):Le (e_Ranks c a) (d_Ranks c a):=by
  unfold e_Ranks d_Ranks
  repeat' (first | with_reducible exact Le.refl _ | with_reducible refine Le.bind ?_ (fun _ => ?_) | with_reducible refine Le.cond _ ?_ ?_ | with_reducible refine Le.forR (fun _ _ => ?_) _ _ | with_reducible refine Le.iter (fun _ => ?_) _ _ | with_reducible refine Le.elim (fun _ => ?_) (fun _ => ?_) _)
noncomputable def e_Safe (c:ContractT) (a:ArenaT):Option (List Bool):=
  (Option.bind (e_Ranks c a) fun r1=>(Option.bind (mkN 1 (r1.length:Int)) fun k1=>(Option.bind (forR (σ:=(List Bool)) (ρ:=Unit) (r1.length:Int) (fun i1 s1=>(Option.bind (idxI r1 (i1:Int)) fun e1=>(Option.bind (idxN k1 (i1:Int)) fun k2=>(Option.bind (s1[k2]?) fun e2=>some (.inl (s1.set k2 (e1 == (-1)))))))) (List.replicate k1 false)) (Sum.elim (fun (s1:(List Bool))=>(Option.bind (eqN k1 s1.length) fun g1=>some s1)) (fun _=>none)))))
theorem le_Safe (c:ContractT) (a:ArenaT):Le (e_Safe c a) (d_Safe c a):=by
  unfold e_Safe d_Safe
  repeat' (first | with_reducible exact Le.refl _ | with_reducible exact le_Ranks _ _ | with_reducible refine Le.bind ?_ (fun _ => ?_) | with_reducible refine Le.cond _ ?_ ?_ | with_reducible refine Le.forR (fun _ _ => ?_) _ _ | with_reducible refine Le.iter (fun _ => ?_) _ _ | with_reducible refine Le.elim (fun _ => ?_) (fun _ => ?_) _)
end Go.Proofs.YtjkljacdbljkpaaGreatDoor
namespace Go.Proofs.YtjkljacdbljkpaaGreatDoor
set_option linter.unusedVariables false
set_option linter.unusedSimpArgs false
set_option maxRecDepth 100000
def ufB (n:Nat) (ab:List Int):Bool:=ab.length == 400&&((List.range n).all (fun i=>decide (0≤ab.getD i 0)&&decide (ab.getD i 0≤(i:Int)))&&decide (n≤400))
theorem uf_of {n:Nat} {ab:List Int} (h:ufB n ab=true):UF n ab:=by
  simp only [ufB,Bool.and_eq_true,beq_iff_eq,List.all_eq_true,List.mem_range,decide_eq_true_eq] at h
  exact ⟨h.1,fun i hi=>h.2.1 i hi,h.2.2⟩
noncomputable def e_29a (p1:Int) (p2:List Int):Option (Int×List Int):=bif decide (0≤p1)&&ufB (p1.toNat+1) p2 then d_29a_n (p1.toNat+1) p1 p2 else none
theorem le_29a (p1:Int) (p2:List Int):Le (e_29a p1 p2) (d_29a p1 p2):=fun r h=>by
  unfold e_29a at h
  cases hb:(decide (0≤p1)&&ufB (p1.toNat+1) p2) with
  | false=>rw [hb] at h;cases h
  | true=>
    rw [hb,cond_true] at h
    simp only [Bool.and_eq_true,decide_eq_true_eq] at hb
    have e:p1=(p1.toNat:Int):=by omega
    rw [e,root_lim (uf_of hb.2) (Nat.lt_succ_self _),←e]
    exact h
noncomputable def e_30a (p1:Int) (p2:Int) (p3:List Int):Option ((List Int)):=
  (Option.bind (e_29a p1 p3) fun r1=>(Option.bind (e_29a p2 r1.2) fun r2=>(Option.bind (e_29a p1 r2.2) fun r3=>(Option.bind (e_29a p2 r3.2) fun r4=>(Option.bind (idxN 400 (if r3.1 < r4.1 then r4.1 else r3.1)) fun k1=>(Option.bind (r4.2[k1]?) fun e1=>some (r4.2.set k1 (if r2.1 < r1.1 then r2.1 else r1.1))))))))
theorem le_30a (p1:Int) (p2:Int) (p3:List Int):Le (e_30a p1 p2 p3) (d_30a p1 p2 p3):=by
  unfold e_30a d_30a
  repeat' (first | with_reducible exact Le.refl _ | with_reducible exact le_29a _ _ | with_reducible refine Le.bind ?_ (fun _ => ?_) | with_reducible refine Le.cond _ ?_ ?_ | with_reducible refine Le.forR (fun _ _ => ?_) _ _ | with_reducible refine Le.iter (fun _ => ?_) _ _ | with_reducible refine Le.elim (fun _ => ?_) (fun _ => ?_) _)
noncomputable def e_gather_step (i:Nat) (s:List (List Int)×List (Int×Int)×List Int):Option ((List (List Int)×List (Int×Int)×List Int) ⊕ Unit):=
  Option.bind (e_29a (i:Int) s.2.2) fun r=>
    bif r.1 == (i:Int) then some (.inl (s.1++[[(i:Int)]],mset (i:Int) (s.1.length:Int) s.2.1,r.2))
    else Option.bind (idxI s.1 ((mget r.1 s.2.1).getD 0)) fun l=>some (.inl (s.1.set ((mget r.1 s.2.1).getD 0).toNat (l++[(i:Int)]),s.2.1,r.2))
theorem le_gather_step (i:Nat) (s:List (List Int)×List (Int×Int)×List Int):Le (e_gather_step i s) (d_gather_step i s):=by
  unfold e_gather_step d_gather_step
  exact Le.bind (le_29a _ _) fun _=>Le.refl _
noncomputable def e_gather (n:Int) (above:List Int):Option (List (List Int)×List Int):=
  bif decide (n≤1000000000000) then Option.bind (forR (σ:=List (List Int)×List (Int×Int)×List Int) (ρ:=Unit) n e_gather_step ([],[],above)) (Sum.elim (fun s=>some (s.1,s.2.2)) (fun _=>none)) else none
theorem le_gather (n:Int) (above:List Int):Le (e_gather n above) (d_gather n above):=by
  unfold e_gather d_gather
  exact Le.cond _ (Le.bind (Le.forR le_gather_step _ _) fun _=>Le.refl _) (Le.refl _)
noncomputable def e_Components (c:ContractT):Option (List (List Int)):=
  (Option.bind (d_Valid c) fun r1=>(bif (r1.1 == 0) then (Option.bind (forR (σ:=(List Int)) (ρ:=Unit) (c.clauses.length:Int) (fun i1 s1=>(Option.bind (idxN 400 (i1:Int)) fun k1=>(Option.bind (s1[k1]?) fun e1=>some (.inl (s1.set k1 (i1:Int)))))) (List.replicate 400 0)) (Sum.elim (fun (s1:(List Int))=>(Option.bind (d_31a c.acts) fun r2=>(Option.bind (forR (σ:=(List Int)×(List (Int×Int))) (ρ:=Unit) (c.clauses.length:Int) (fun i2 s2=>(Option.bind (idxI c.clauses (i2:Int)) fun e2=>(Option.bind (bif r2 then (Option.bind (e_30a 0 (i2:Int) s2.1) fun r3=>some r3) else some s2.1) fun (v1:(List Int))=>(Option.bind (forR (σ:=(List Int)) (ρ:=Unit) (e2.start.length:Int) (fun i3 s3=>(Option.bind (idxI e2.start (i3:Int)) fun e3=>(Option.bind (e_30a (i2:Int) e3.clause s3) fun r4=>some (.inl r4)))) v1) (Sum.elim (fun (s3:(List Int))=>(Option.bind (d_numbers e2) fun r5=>(Option.bind (forR (σ:=(List Int)×(List (Int×Int))) (ρ:=Unit) (r5.length:Int) (fun i4 s4=>(Option.bind (Option.bind (idxI r5 (i4:Int)) fun e4=>(bif (mget e4 s4.2).isSome then (Option.bind (e_30a ((mget e4 s4.2).getD 0) (i2:Int) s4.1) fun r6=>some (r6,s4.2)) else some (s4.1,(mset e4 (i2:Int) s4.2)))) fun (v2:(List Int)×(List (Int×Int)))=>some (.inl (v2.1,v2.2)))) (s3,s2.2)) (Sum.elim (fun (s4:(List Int)×(List (Int×Int)))=>some (.inl (s4.1,s4.2))) (fun _=>none))))) (fun _=>none)))))) (s1,[])) (Sum.elim (fun (s2:(List Int)×(List (Int×Int)))=>(Option.bind (e_gather (c.clauses.length:Int) s2.1) fun r7=>some r7.1)) (fun _=>none))))) (fun _=>none))) else some []))
theorem le_Components (c:ContractT):Le (e_Components c) (d_Components c):=by
  unfold e_Components d_Components
  repeat' (first | with_reducible exact Le.refl _ | with_reducible exact le_30a _ _ _ | with_reducible exact le_gather _ _ | with_reducible refine Le.bind ?_ (fun _ => ?_) | with_reducible refine Le.cond _ ?_ ?_ | with_reducible refine Le.forR (fun _ _ => ?_) _ _ | with_reducible refine Le.iter (fun _ => ?_) _ _ | with_reducible refine Le.elim (fun _ => ?_) (fun _ => ?_) _)
noncomputable def e_Part (c:ContractT) (clauses:List Int):Option (ContractT×Int):=
  (Option.bind (d_Valid c) fun r1=>(bif (r1.1 == 0) then (Option.bind (forR (σ:=Int) (ρ:=Unit) (clauses.length:Int) (fun i1 s1=>(Option.bind (idxI clauses (i1:Int)) fun e1=>(Option.bind (bif decide (e1≤s1) then some true else some (decide ((c.clauses.length:Int)≤e1))) fun v1=>(bif v1 then some (.inr ()) else some (.inl e1))))) (-1)) (Sum.elim (fun (s1:Int)=>(Option.bind (cloneI 8 c.holders) fun e2=>(Option.bind (cloneI 48 c.units) fun e3=>(Option.bind (cloneI 56 c.acts) fun e4=>(Option.bind (cloneI 8 c.off) fun e5=>(Option.bind (mkN 136 (clauses.length:Int)) fun k1=>(Option.bind (forR (σ:=(List ClauseT)) (ρ:=Unit) (clauses.length:Int) (fun i2 s2=>(Option.bind (idxI clauses (i2:Int)) fun e6=>(Option.bind (idxI c.clauses e6) fun e7=>(Option.bind (cloneI 16 e7.start) fun e8=>(Option.bind (forR (σ:=(List CondT)) (ρ:=Unit) (e8.length:Int) (fun i3 s3=>(Option.bind (idxN e8.length (i3:Int)) fun k2=>(Option.bind (s3[k2]?) fun e9=>(Option.bind (e_BinarySearch clauses e9.clause) fun r2=>(bif r2.2 then (Option.bind (idxN e8.length (i3:Int)) fun k3=>(Option.bind (s3[k3]?) fun e10=>some (.inl (s3.set k3 ({clause:=r2.1,is:=e10.is}:CondT))))) else some (.inr ())))))) e8) (Sum.elim (fun (s3:(List CondT))=>(Option.bind (idxN k1 (i2:Int)) fun k4=>(Option.bind (s2[k4]?) fun e11=>some (.inl (s2.set k4 ({e7 with start:=List.take e8.length s3}:ClauseT)))))) (fun (y2:Unit)=>some (.inr ())))))))) (List.replicate k1 ({kind:=0,role:=0,act:=0,need:=0,start:=[],after:=0,grace:=0,business:=false,final:=false,pause:=0,resume:=0,value:=({num:=0,den:=0}:Ratio),unit:=0,to:=0,waived:=false}:ClauseT))) (Sum.elim (fun (s2:(List ClauseT))=>(Option.bind (eqN k1 s2.length) fun g1=>some (({parties:=c.parties,holders:=e2,units:=e3,acts:=e4,clauses:=s2,days:=c.days,off:=e5}:ContractT),0))) (fun (y3:Unit)=>some (({parties:=0,holders:=[],units:=[],acts:=[],clauses:=[],days:=0,off:=[]}:ContractT),1)))))))))) (fun (y1:Unit)=>some (({parties:=0,holders:=[],units:=[],acts:=[],clauses:=[],days:=0,off:=[]}:ContractT),1)))) else some (({parties:=0,holders:=[],units:=[],acts:=[],clauses:=[],days:=0,off:=[]}:ContractT),1)))
theorem le_Part (c:ContractT) (clauses:List Int):Le (e_Part c clauses) (d_Part c clauses):=by
  unfold e_Part d_Part
  repeat' (first | with_reducible exact Le.refl _ | with_reducible exact le_BinarySearch _ _ | with_reducible refine Le.bind ?_ (fun _ => ?_) | with_reducible refine Le.cond _ ?_ ?_ | with_reducible refine Le.forR (fun _ _ => ?_) _ _ | with_reducible refine Le.iter (fun _ => ?_) _ _ | with_reducible refine Le.elim (fun _ => ?_) (fun _ => ?_) _)
noncomputable def e_wait (c:ContractT) (a:ArenaT) (safe:List Bool):Option (Int):=
  (Option.bind (α:=Unit ⊕ Int) (Option.bind (iterN (σ:=Int×Int) (ρ:=Unit ⊕ Int) (fun s1=>(Option.bind (idxI a.positions s1.2) fun e1=>(bif decide (e1.state.day < c.days) then (Option.bind (d_targetS a s1.2 (-2)) fun r1=>(Option.bind (d_targetS a r1.1 (-1)) fun r2=>(Option.bind (idxI safe r2.1) fun e2=>(bif e2 then some (.inl ((IntKind.i64.wrap (s1.1+1)),r2.1)) else some (.inr (.inr s1.1)))))) else some (.inr (.inl ()))))) 40 (0,0)) (Sum.elim (fun (y1:Unit)=>some (.inl ())) (fun (y2:Int)=>some (.inr y2)))) (Sum.elim (fun (v1:Unit)=>some (-1)) (fun (y3:Int)=>some y3)))
theorem le_wait (c:ContractT) (a:ArenaT) (safe:List Bool):Le (e_wait c a safe) (d_wait c a safe):=by
  unfold e_wait d_wait
  repeat' (first | with_reducible exact Le.refl _ | with_reducible refine Le.bind ?_ (fun _ => ?_) | with_reducible refine Le.cond _ ?_ ?_ | with_reducible refine Le.forR (fun _ _ => ?_) _ _ | with_reducible refine Le.iter (fun _ => ?_) _ _ | with_reducible refine Le.elim (fun _ => ?_) (fun _ => ?_) _)
noncomputable def e_Advise (c:ContractT) (party:Int) (s:StateT):Option (AdviceT×Int):=
  (Option.bind (e_From c party ({state:=s,own:=true}:PosT)) fun r1=>(bif (r1.2 == 0) then (Option.bind (e_Safe c r1.1) fun r2=>(Option.bind (idxI r2 0) fun e1=>(bif e1 then (Option.bind (d_advised r1.1 r2) fun r3=>(Option.bind (idxI r3 0) fun e2=>(Option.bind (e_wait c r1.1 r2) fun r4=>some (({safe:=true,move:=e2,wait:=r4}:AdviceT),0)))) else some (({safe:=false,move:=(-2),wait:=0}:AdviceT),0)))) else some (({safe:=false,move:=0,wait:=0}:AdviceT),r1.2)))
theorem le_Advise (c:ContractT) (party:Int) (s:StateT):Le (e_Advise c party s) (d_Advise c party s):=by
  unfold e_Advise d_Advise
  repeat' (first | with_reducible exact Le.refl _ | with_reducible exact le_From _ _ _ | with_reducible exact le_Safe _ _ | with_reducible exact le_wait _ _ _ | with_reducible refine Le.bind ?_ (fun _ => ?_) | with_reducible refine Le.cond _ ?_ ?_ | with_reducible refine Le.forR (fun _ _ => ?_) _ _ | with_reducible refine Le.iter (fun _ => ?_) _ _ | with_reducible refine Le.elim (fun _ => ?_) (fun _ => ?_) _)
noncomputable def e_182a (p1:List Int) (p2:ContractT) (p3:StateT) (p4:Bool) (p5:Int) (p6:Bool) (p7:Int) (p8:Int) (p9:Bool):Option (Int×Bool×Int×Int×Bool):=
  (Option.bind (e_From p2 p5 ({state:=p3,own:=p4}:PosT)) fun r1=>(bif (r1.2 == 0) then (Option.bind (e_Safe p2 r1.1) fun r2=>(Option.bind (e_Advise p2 p5 p3) fun r3=>(bif (r3.2 == 0) then (Option.bind (bif p6 then (Option.bind (idxI r2 0) fun e1=>some e1) else some false) fun v1=>(Option.bind (bif p9 then some (r3.1.move == (-2)) else some false) fun v2=>(Option.bind (idxI r1.1.moves 0) fun e2=>(Option.bind (forR (σ:=Int) (ρ:=Unit) (e2.length:Int) (fun i1 s1=>(Option.bind (Option.bind (idxI e2 (i1:Int)) fun e3=>(Option.bind (bif (e3.step == (-2)) then some false else (Option.bind (idxI r2 e3.to) fun e4=>(bif e4 then (bif (s1 == (-2)) then some true else some (decide (e3.step < s1))) else some false))) fun v3=>(bif v3 then some e3.step else some s1))) fun (v4:Int)=>some (.inl v4))) p7) (Sum.elim (fun (s1:Int)=>(Option.bind (Option.bind (bif decide (0≤r3.1.wait) then (bif decide (p8 < 0) then some true else some (decide (r3.1.wait < p8))) else some false) fun v5=>(bif v5 then some r3.1.wait else some p8)) fun (v6:Int)=>some (0,v1,s1,v6,v2))) (fun _=>none)))))) else some (r3.2,p6,p7,p8,p9)))) else some (r1.2,p6,p7,p8,p9)))
theorem le_182a (p1:List Int) (p2:ContractT) (p3:StateT) (p4:Bool) (p5:Int) (p6:Bool) (p7:Int) (p8:Int) (p9:Bool):Le (e_182a p1 p2 p3 p4 p5 p6 p7 p8 p9) (d_182a p1 p2 p3 p4 p5 p6 p7 p8 p9):=by
  unfold e_182a d_182a
  repeat' (first | with_reducible exact Le.refl _ | with_reducible exact le_From _ _ _ | with_reducible exact le_Safe _ _ | with_reducible exact le_Advise _ _ _ | with_reducible refine Le.bind ?_ (fun _ => ?_) | with_reducible refine Le.cond _ ?_ ?_ | with_reducible refine Le.forR (fun _ _ => ?_) _ _ | with_reducible refine Le.iter (fun _ => ?_) _ _ | with_reducible refine Le.elim (fun _ => ?_) (fun _ => ?_) _)
noncomputable def e_177a (p1:ContractT) (p2:Int) (p3:StateT) (p4:Bool) (p5:Int) (p6:Bool) (p7:Int) (p8:Int) (p9:Bool):Option (Int×Bool×Int×Int×Bool):=
  (Option.bind (bif decide (p2 < 0) then some true else (bif decide (p1.parties≤p2) then some true else (Option.bind (d_ValidS p1 p3) fun r1=>some (!r1)))) fun v1=>(bif v1 then some (1,p6,p7,p8,p9) else (Option.bind (Option.bind (e_Components p1) fun r2=>(Option.bind (forR (σ:=Int×Bool×Int×Int×Bool) (ρ:=Int×Bool×Int×Int×Bool) (r2.length:Int) (fun i1 s1=>(Option.bind (idxI r2 (i1:Int)) fun e1=>(Option.bind (e_Part p1 e1) fun r3=>(Option.bind (bif (r3.2 == 0) then (Option.bind (d_restricted e1 p3) fun r4=>(Option.bind (e_182a e1 r3.1 r4 p4 p5 s1.2.1 s1.2.2.1 s1.2.2.2.1 s1.2.2.2.2) fun r5=>some (r5.1,r5.2.1,r5.2.2.1,r5.2.2.2.1,r5.2.2.2.2))) else some (r3.2,s1.2.1,s1.2.2.1,s1.2.2.2.1,s1.2.2.2.2)) fun (v2:Int×Bool×Int×Int×Bool)=>(bif (v2.1 == 0) then some (.inl (v2.1,v2.2.1,v2.2.2.1,v2.2.2.2.1,v2.2.2.2.2)) else some (.inr (v2.1,v2.2.1,v2.2.2.1,v2.2.2.2.1,v2.2.2.2.2))))))) (0,p6,p7,p8,p9)) (Sum.elim (fun (s1:Int×Bool×Int×Int×Bool)=>some (s1.1,s1.2.1,s1.2.2.1,s1.2.2.2.1,s1.2.2.2.2)) (fun (y1:Int×Bool×Int×Int×Bool)=>some (y1.1,y1.2.1,y1.2.2.1,y1.2.2.2.1,y1.2.2.2.2))))) fun (v3:Int×Bool×Int×Int×Bool)=>some (v3.1,v3.2.1,v3.2.2.1,v3.2.2.2.1,v3.2.2.2.2))))
theorem le_177a (p1:ContractT) (p2:Int) (p3:StateT) (p4:Bool) (p5:Int) (p6:Bool) (p7:Int) (p8:Int) (p9:Bool):Le (e_177a p1 p2 p3 p4 p5 p6 p7 p8 p9) (d_177a p1 p2 p3 p4 p5 p6 p7 p8 p9):=by
  unfold e_177a d_177a
  repeat' (first | with_reducible exact Le.refl _ | with_reducible exact le_Components _ | with_reducible exact le_Part _ _ | with_reducible exact le_182a _ _ _ _ _ _ _ _ _ | with_reducible refine Le.bind ?_ (fun _ => ?_) | with_reducible refine Le.cond _ ?_ ?_ | with_reducible refine Le.forR (fun _ _ => ?_) _ _ | with_reducible refine Le.iter (fun _ => ?_) _ _ | with_reducible refine Le.elim (fun _ => ?_) (fun _ => ?_) _)
noncomputable def e_AdviseC (c:ContractT) (party:Int) (s:StateT):Option (AdviceT×Int):=
  (Option.bind (e_177a c party s true party true (-2) (-1) true) fun r1=>(bif (r1.1 == 0) then (bif r1.2.1 then (Option.bind (bif r1.2.2.2.2 then some (-2) else some r1.2.2.1) fun (v1:Int)=>some (({safe:=r1.2.1,move:=v1,wait:=r1.2.2.2.1}:AdviceT),0)) else some (({safe:=false,move:=(-2),wait:=0}:AdviceT),0)) else some (({safe:=false,move:=0,wait:=0}:AdviceT),r1.1)))
theorem le_AdviseC (c:ContractT) (party:Int) (s:StateT):Le (e_AdviseC c party s) (d_AdviseC c party s):=by
  unfold e_AdviseC d_AdviseC
  repeat' (first | with_reducible exact Le.refl _ | with_reducible exact le_177a _ _ _ _ _ _ _ _ _ | with_reducible refine Le.bind ?_ (fun _ => ?_) | with_reducible refine Le.cond _ ?_ ?_ | with_reducible refine Le.forR (fun _ _ => ?_) _ _ | with_reducible refine Le.iter (fun _ => ?_) _ _ | with_reducible refine Le.elim (fun _ => ?_) (fun _ => ?_) _)
noncomputable def e_179b (p1:List Int) (p2:ContractT) (p3:StateT) (p4:Bool) (p5:Int) (p6:List (List Int)):Option (Int×(List (List Int))):=
  (Option.bind (e_From p2 p5 ({state:=p3,own:=p4}:PosT)) fun r1=>(Option.bind (Option.bind (bif (r1.2 == 0) then (Option.bind (e_Safe p2 r1.1) fun r2=>(Option.bind (idxI r2 0) fun e1=>some (!e1))) else some false) fun v1=>(bif v1 then (Option.bind (appI (α:=List Int) 24 p6 [p1]) fun e2=>some e2) else some p6)) fun (v2:(List (List Int)))=>some (r1.2,v2)))
theorem le_179b (p1:List Int) (p2:ContractT) (p3:StateT) (p4:Bool) (p5:Int) (p6:List (List Int)):Le (e_179b p1 p2 p3 p4 p5 p6) (d_179b p1 p2 p3 p4 p5 p6):=by
  unfold e_179b d_179b
  repeat' (first | with_reducible exact Le.refl _ | with_reducible exact le_From _ _ _ | with_reducible exact le_Safe _ _ | with_reducible refine Le.bind ?_ (fun _ => ?_) | with_reducible refine Le.cond _ ?_ ?_ | with_reducible refine Le.forR (fun _ _ => ?_) _ _ | with_reducible refine Le.iter (fun _ => ?_) _ _ | with_reducible refine Le.elim (fun _ => ?_) (fun _ => ?_) _)
noncomputable def e_177c (p1:ContractT) (p2:Int) (p3:PosT) (p4:Int) (p5:List (List Int)):Option (Int×(List (List Int))):=
  (Option.bind (bif decide (p2 < 0) then some true else (bif decide (p1.parties≤p2) then some true else (Option.bind (d_ValidS p1 p3.state) fun r1=>some (!r1)))) fun v1=>(bif v1 then some (1,p5) else (Option.bind (Option.bind (e_Components p1) fun r2=>(Option.bind (forR (σ:=Int×(List (List Int))) (ρ:=Int×(List (List Int))) (r2.length:Int) (fun i1 s1=>(Option.bind (idxI r2 (i1:Int)) fun e1=>(Option.bind (e_Part p1 e1) fun r3=>(Option.bind (bif (r3.2 == 0) then (Option.bind (d_restricted e1 p3.state) fun r4=>(Option.bind (e_179b e1 r3.1 r4 p3.own p4 s1.2) fun r5=>some (r5.1,r5.2))) else some (r3.2,s1.2)) fun (v2:Int×(List (List Int)))=>(bif (v2.1 == 0) then some (.inl (v2.1,v2.2)) else some (.inr (v2.1,v2.2))))))) (0,p5)) (Sum.elim (fun (s1:Int×(List (List Int)))=>some (s1.1,s1.2)) (fun (y1:Int×(List (List Int)))=>some (y1.1,y1.2))))) fun (v3:Int×(List (List Int)))=>some (v3.1,v3.2))))
theorem le_177c (p1:ContractT) (p2:Int) (p3:PosT) (p4:Int) (p5:List (List Int)):Le (e_177c p1 p2 p3 p4 p5) (d_177c p1 p2 p3 p4 p5):=by
  unfold e_177c d_177c
  repeat' (first | with_reducible exact Le.refl _ | with_reducible exact le_Components _ | with_reducible exact le_Part _ _ | with_reducible exact le_179b _ _ _ _ _ _ | with_reducible refine Le.bind ?_ (fun _ => ?_) | with_reducible refine Le.cond _ ?_ ?_ | with_reducible refine Le.forR (fun _ _ => ?_) _ _ | with_reducible refine Le.iter (fun _ => ?_) _ _ | with_reducible refine Le.elim (fun _ => ?_) (fun _ => ?_) _)
noncomputable def e_Lost (c:ContractT) (party:Int) (p:PosT):Option ((List (List Int))×Int):=
  (Option.bind (e_177c c party p party []) fun r1=>(bif (r1.1 == 0) then some (r1.2,0) else some ([],r1.1)))
theorem le_Lost (c:ContractT) (party:Int) (p:PosT):Le (e_Lost c party p) (d_Lost c party p):=by
  unfold e_Lost d_Lost
  repeat' (first | with_reducible exact Le.refl _ | with_reducible exact le_177c _ _ _ _ _ | with_reducible refine Le.bind ?_ (fun _ => ?_) | with_reducible refine Le.cond _ ?_ ?_ | with_reducible refine Le.forR (fun _ _ => ?_) _ _ | with_reducible refine Le.iter (fun _ => ?_) _ _ | with_reducible refine Le.elim (fun _ => ?_) (fun _ => ?_) _)
noncomputable def e_SafeC (c:ContractT) (party:Int) (p:PosT):Option (Bool×Int):=
  (Option.bind (e_Lost c party p) fun r1=>(Option.bind (bif (r1.2 == 0) then some ((r1.1.length:Int) == 0) else some false) fun v1=>some (v1,r1.2)))
theorem le_SafeC (c:ContractT) (party:Int) (p:PosT):Le (e_SafeC c party p) (d_SafeC c party p):=by
  unfold e_SafeC d_SafeC
  repeat' (first | with_reducible exact Le.refl _ | with_reducible exact le_Lost _ _ _ | with_reducible refine Le.bind ?_ (fun _ => ?_) | with_reducible refine Le.cond _ ?_ ?_ | with_reducible refine Le.forR (fun _ _ => ?_) _ _ | with_reducible refine Le.iter (fun _ => ?_) _ _ | with_reducible refine Le.elim (fun _ => ?_) (fun _ => ?_) _)
noncomputable def e_15b (p1:ContractT) (p2:List Int):Option (Int×(List Int)×(List UnitT)×(List ActT)×(List ClauseT)×Int×(List Int)×Int):=
  (Option.bind (d_Valid p1) fun r1=>(bif (r1.1 == 0) then (Option.bind (forR (σ:=Int) (ρ:=Unit) (p2.length:Int) (fun i1 s1=>(Option.bind (idxN p2.length (i1:Int)) fun k1=>(Option.bind (p2[k1]?) fun e1=>(Option.bind (bif decide (e1≤s1) then some true else some (decide ((p1.clauses.length:Int)≤e1))) fun v1=>(bif v1 then some (.inr ()) else some (.inl e1)))))) (-1)) (Sum.elim (fun (s1:Int)=>(Option.bind (cloneI 8 p1.holders) fun e2=>(Option.bind (cloneI 48 p1.units) fun e3=>(Option.bind (cloneI 56 p1.acts) fun e4=>(Option.bind (cloneI 8 p1.off) fun e5=>(Option.bind (mkN 136 (p2.length:Int)) fun k2=>(Option.bind (forR (σ:=(List ClauseT)) (ρ:=Unit) (p2.length:Int) (fun i2 s2=>(Option.bind (idxN p2.length (i2:Int)) fun k3=>(Option.bind (p2[k3]?) fun e6=>(Option.bind (idxI p1.clauses e6) fun e7=>(Option.bind (cloneI 16 e7.start) fun e8=>(Option.bind (forR (σ:=(List CondT)) (ρ:=Unit) (e8.length:Int) (fun i3 s3=>(Option.bind (idxN e8.length (i3:Int)) fun k4=>(Option.bind (s3[k4]?) fun e9=>(Option.bind (e_BinarySearch p2 e9.clause) fun r2=>(bif r2.2 then (Option.bind (idxN e8.length (i3:Int)) fun k5=>(Option.bind (s3[k5]?) fun e10=>some (.inl (s3.set k5 ({clause:=r2.1,is:=e10.is}:CondT))))) else some (.inr ())))))) e8) (Sum.elim (fun (s3:(List CondT))=>(Option.bind (idxN k2 (i2:Int)) fun k6=>(Option.bind (s2[k6]?) fun e11=>some (.inl (s2.set k6 ({e7 with start:=List.take e8.length s3}:ClauseT)))))) (fun (y2:Unit)=>some (.inr ()))))))))) (List.replicate k2 ({kind:=0,role:=0,act:=0,need:=0,start:=[],after:=0,grace:=0,business:=false,final:=false,pause:=0,resume:=0,value:=({num:=0,den:=0}:Ratio),unit:=0,to:=0,waived:=false}:ClauseT))) (Sum.elim (fun (s2:(List ClauseT))=>some (p1.parties,e2,e3,e4,List.take k2 s2,p1.days,e5,0)) (fun (y3:Unit)=>some (0,[],[],[],[],0,[],1)))))))))) (fun (y1:Unit)=>some (0,[],[],[],[],0,[],1)))) else some (0,[],[],[],[],0,[],1)))
theorem le_15b (p1:ContractT) (p2:List Int):Le (e_15b p1 p2) (d_15b p1 p2):=by
  unfold e_15b d_15b
  repeat' (first | with_reducible exact Le.refl _ | with_reducible exact le_BinarySearch _ _ | with_reducible refine Le.bind ?_ (fun _ => ?_) | with_reducible refine Le.cond _ ?_ ?_ | with_reducible refine Le.forR (fun _ _ => ?_) _ _ | with_reducible refine Le.iter (fun _ => ?_) _ _ | with_reducible refine Le.elim (fun _ => ?_) (fun _ => ?_) _)
noncomputable def e_175a (p1:ContractT) (p2:List Int) (p3:StateT):Option (Int×(List Int)×(List Bool)×(List MarkT)×Int):=
  (Option.bind (d_ValidS p1 p3) fun r1=>(bif r1 then (Option.bind (e_15b p1 p2) fun r2=>(bif (r2.2.2.2.2.2.2.2 == 0) then (Option.bind (d_176a p2 p3) fun r3=>some (p3.day,r3.1,r3.2.1,r3.2.2,0)) else some (0,[],[],[],1))) else some (0,[],[],[],1)))
theorem le_175a (p1:ContractT) (p2:List Int) (p3:StateT):Le (e_175a p1 p2 p3) (d_175a p1 p2 p3):=by
  unfold e_175a d_175a
  repeat' (first | with_reducible exact Le.refl _ | with_reducible exact le_15b _ _ | with_reducible refine Le.bind ?_ (fun _ => ?_) | with_reducible refine Le.cond _ ?_ ?_ | with_reducible refine Le.forR (fun _ _ => ?_) _ _ | with_reducible refine Le.iter (fun _ => ?_) _ _ | with_reducible refine Le.elim (fun _ => ?_) (fun _ => ?_) _)
noncomputable def e_head23:Option (Bool):=
  (Option.bind (d_example23) fun r1=>(Option.bind (e_Start r1) fun r2=>(Option.bind (e_Step r1 r2.1 0) fun r3=>(Option.bind (e_Step r1 r2.1 (-1)) fun r4=>(Option.bind (e_AdviseC r1 0 r2.1) fun r5=>(Option.bind (e_AdviseC r1 0 r3.1) fun r6=>(Option.bind (e_Lost r1 0 ({state:=r4.1,own:=true}:PosT)) fun r7=>(Option.bind (e_SafeC r1 0 ({state:=r2.1,own:=true}:PosT)) fun r8=>(Option.bind (e_SafeC r1 0 ({state:=r2.1,own:=false}:PosT)) fun r9=>(Option.bind (e_175a r1 [1] r2.1) fun r10=>(Option.bind (e_175a r1 [2] r2.1) fun r11=>(Option.bind (e_SafeC r1 2 ({state:=r2.1,own:=false}:PosT)) fun r12=>(Option.bind (bif (r2.2 == 0) then (bif (r3.2 == 0) then (bif (r4.2 == 0) then (bif (r5.2 == 0) then (bif ((r5.1.safe == true)&&((r5.1.move == 0)&&((r5.1.wait == 0)&&true))) then (bif (r6.2 == 0) then (bif ((r6.1.safe == true)&&((r6.1.move == 1)&&((r6.1.wait == 0)&&true))) then (bif (r7.2 == 0) then (Option.bind (d_Sets r7.1 ([[1]])) fun r13=>some r13) else some false) else some false) else some false) else some false) else some false) else some false) else some false) else some false) fun v1=>(Option.bind (bif v1 then (bif (r8.2 == 0) then (bif r8.1 then (bif (r9.2 == 0) then (bif r9.1 then some false else (bif (r10.2.2.2.2 == 0) then (bif ((r10.2.2.2.1.length:Int) == 1) then (Option.bind (idxI r10.2.2.2.1 0) fun e1=>(bif (e1.left == 1) then (bif (r11.2.2.2.2 == 1) then some (r12.2 == 1) else some false) else some false)) else some false) else some false)) else some false) else some false) else some false) else some false) fun v2=>some v2))))))))))))))
theorem le_head23:Le e_head23 d_head23:=by
  unfold e_head23 d_head23
  repeat' (first | with_reducible exact Le.refl _ | with_reducible exact le_Start _ | with_reducible exact le_Step _ _ _ | with_reducible exact le_AdviseC _ _ _ | with_reducible exact le_Lost _ _ _ | with_reducible exact le_SafeC _ _ _ | with_reducible exact le_175a _ _ _ | with_reducible refine Le.bind ?_ (fun _ => ?_) | with_reducible refine Le.cond _ ?_ ?_ | with_reducible refine Le.elim (fun _ => ?_) (fun _ => ?_) _)
theorem s_head23:d_head23=some true:=le_head23 true (by kernel_rfl)
end Go.Proofs.YtjkljacdbljkpaaGreatDoor
namespace Go.Proofs.YtjkljacdbljkpaaGreatDoor
open Go.RowKit
set_option linter.unusedVariables false
set_option linter.unusedSimpArgs false
set_option maxRecDepth 100000
theorem breach_any {c:ContractT} (hc:c.Ok) (s:StateT) (party:Int):d_Breach c s party=some (playB c party s&&lostB c s party):=by
  cases hpl:playB c party s with
  | true=>
    obtain ⟨h0,h1,hv⟩:=playB_iff.1 hpl
    rw [s_Breach hc hv h0 h1,Bool.true_and]
  | false=>
    unfold d_Breach
    rw [s_ValidS c _ hc]
    simp only [playB] at hpl
    simp only [Option.bind_some]
    have:(bif decide (party < 0) then some true else (bif decide (c.parties≤party) then some true else some (!vsB c s)))=some true:=by
      by_cases h1:party < 0
      · rw [decide_eq_true h1];rfl
      by_cases h2:c.parties≤party
      · rw [decide_eq_true h2];cases decide (party < 0)<;>rfl
      rw [decide_eq_false h1,decide_eq_false h2]
      rw [decide_eq_true (show 0≤party by omega),decide_eq_true (show party < c.parties by omega)] at hpl
      simp only [Bool.true_and] at hpl
      rw [hpl];rfl
    rw [this];rfl
theorem s_Restrict {c:ContractT} (hc:c.Ok) {s:StateT} {P:List Int} {ks:List ClauseT} (hl:P.length≤400) (h:PartOk c P ks):d_Restrict c P s=some (bif vsB c s then (rs P s,0) else (noS,1)):=by
  unfold d_Restrict
  rw [s_ValidS c _ hc]
  simp only [Option.bind_some]
  cases hv:vsB c s with
  | false=>rfl
  | true=>
    simp only [cond_true]
    rw [s_PartC hc hl h]
    simp only [Option.bind_some]
    rw [s_restricted hc (vs_of hv) h.pos.rng hl]
    rfl
theorem any_take {α:Type} (f:α→Bool) (l:List α) {i:Nat} (hi:i < l.length):(l.take (i+1)).any f=((l.take i).any f||f l[i]):=by
  rw [List.take_succ_eq_append_getElem hi,List.any_append];simp
theorem m_ComposeSteps (c:ContractT) (s:StateT) (step party:Int) (hc:ContractT.Ok c) (hs:StateT.Ok s) (hstep:InK .i64 step) (hparty:InK .i64 party):d_ComposeSteps c s step party=some true:=by
  refine Ret.eq ?_
  unfold d_ComposeSteps
  refine Ret.bindE s_head23 ?_
  refine Ret.bindE (s_ok23 hc _) ?_
  refine Ret.ite (fun _ => ?_) (fun _=>Ret.some rfl)
  by_cases hcv:(validR c).1=0
  case neg=>
    have hvf:vsB c s=false:=by
      unfold vsB
      rw [beq_eq_false_iff_ne.2 hcv];rfl
    have hC:d_Components c=some []:=by
      unfold d_Components
      rw [hc.valid]
      simp only [Option.bind_some]
      rw [beq_eq_false_iff_ne.2 hcv];rfl
    refine Ret.bindE hC ?_
    refine Ret.bindE (step_err hc (.inl hvf)) ?_
    refine Ret.bindE (v:=.inl false) rfl ?_
    refine Ret.bindE (v:=true) ?_ (Ret.some rfl)
    rw [breach_any hc]
    have:playB c party s=false:=by
      unfold playB
      rw [hvf]
      cases decide (0≤party)<;>cases decide (party < c.parties)<;>rfl
    rw [this];rfl
  obtain ⟨ρ,R,hC⟩:=s_CompC hc hcv
  have sm:=small_of (hc.off.lt (by omega)) hcv
  have hcl:=sm.clauses
  have hpl:=parts_len (c:=c) (ρ:=ρ)
  refine Ret.bindE hC ?_
  have hst:∃ r,d_Step c s step=some r:=by
    cases hv:vsB c s with
    | false=>exact ⟨_,step_err hc (.inl hv)⟩
    | true=>
      by_cases h1 : -1≤step
      · by_cases h2:step < c.acts.length
        · by_cases hd:s.day=c.days
          · exact ⟨_,step_end hc hv h1 h2 hd⟩
          · exact ⟨_,(step_ok hc (vs_of hv) h1 h2 (by have:=(vs_of hv).day;omega)).1⟩
        · exact ⟨_,step_err hc (.inr (.inr (by omega)))⟩
      · exact ⟨_,step_err hc (.inr (.inl (by omega)))⟩
  obtain ⟨r4,hr4⟩:=hst
  refine Ret.bindE hr4 ?_
  refine Ret.bind (P:=fun o:Bool ⊕ Unit=>o=.inl (playB c party s&&(partsL ρ c.clauses.length).any fun P=>lostB (partR c P).1 (rs P s) party)) (Ret.forL (fun i b=>b=(playB c party s&&((partsL ρ c.clauses.length).take i).any fun P=>lostB (partR c P).1 (rs P s) party)) (by omega) (by simp) ?_ ?_) ?_
  · rintro i b hi rfl
    obtain ⟨r,hr,er,ep⟩:=parts_at (c:=c) (ρ:=ρ) hi
    obtain ⟨ks,hks⟩:=prt_ok hc hcv R r
    rw [←ep] at hks
    have hPl:(partsL ρ c.clauses.length)[i].length≤400:=by rw [ep];have:=prt_len (c:=c) (ρ:=ρ) r;omega
    rw [any_take _ _ hi]
    generalize ((partsL ρ c.clauses.length).take i).any _=b0
    have eI:=idxI_at (List.getElem?_eq_getElem hi)
    generalize (partsL ρ c.clauses.length)[i]=P at hks hPl eI ⊢
    refine Ret.bind (P:=fun o:Bool ⊕ Unit=>o=.inl (playB c party s&&(b0||lostB (partR c P).1 (rs P s) party))) ?_ (fun o ho=>by subst ho;exact Ret.some rfl)
    refine Ret.bindE eI ?_
    refine Ret.bindE (s_PartC hc hPl hks) ?_
    refine Ret.bindE eI ?_
    refine Ret.bindE (s_Restrict hc hPl hks) ?_
    refine Ret.bindE (s_ValidS c s hc) ?_
    cases hv:vsB c s with
    | false=>
      refine Ret.ite (fun h=>by cases h) (fun _ => ?_)
      refine Ret.ite (fun _ => ?_) (fun h=>by cases h)
      have:playB c party s=false:=by
        unfold playB
        rw [hv]
        cases decide (0≤party)<;>cases decide (party < c.parties)<;>rfl
      rw [this]
      exact Ret.some rfl
    | true=>
      have hvs:=vs_of hv
      have hvd:=vs_part hc hks hvs
      have hok:=hks.okk hc
      have hvb:vsB (cp c ks) (rs P s)=true:=vsB_of hvd
      refine Ret.ite (fun _ => ?_) (fun h=>by cases h)
      refine Ret.bindE (v:=false) ?_ ?_
      · show (Option.bind (d_ValidS (cp c ks) (rs P s)) fun r8=>some (!r8))=some false
        rw [s_ValidS _ _ hok,hvb];rfl
      refine Ret.ite (fun h=>by cases h) (fun _ => ?_)
      refine Ret.bindE (v:=playB c party s&&(b0||lostB (partR c P).1 (rs P s) party)) ?_ ?_
      · rw [breach_any hok]
        have e1:playB (cp c ks) party (rs P s)=playB c party s:=by
          unfold playB
          rw [hvb,hv]
        rw [hks.eq]
        show (bif playB c party s&&b0 then some true else Option.bind (some (playB (cp c ks) party (rs P s)&&lostB (cp c ks) (rs P s) party)) fun r9=>some r9)=_
        rw [e1]
        cases playB c party s<;>cases b0<;>rfl
      by_cases h1 : -1≤step
      case neg=>
        rw [step_err hc (.inr (.inl (by omega)))] at hr4
        cases hr4
        refine Ret.bindE (step_err hok (.inr (.inl (by omega)))) ?_
        exact Ret.some rfl
      by_cases h2:step < c.acts.length
      case neg=>
        rw [step_err hc (.inr (.inr (by omega)))] at hr4
        cases hr4
        refine Ret.bindE (step_err hok (.inr (.inr (by show (c.acts.length:Int)≤step;omega)))) ?_
        exact Ret.some rfl
      by_cases hd:s.day=c.days
      · rw [step_end hc hv h1 h2 hd] at hr4
        cases hr4
        refine Ret.bindE (step_end hok hvb h1 h2 hd) ?_
        exact Ret.some rfl
      · have hd':s.day < c.days:=by have:=hvs.day;omega
        obtain ⟨g1,g2,_,_⟩:=step_ok hc hvs h1 h2 hd'
        rw [g1] at hr4
        cases hr4
        obtain ⟨k1,k2,_,_⟩:=step_ok hok hvd h1 h2 hd'
        refine Ret.bindE k1 ?_
        refine Ret.ite (fun _ => ?_) (fun h=>by cases h)
        refine Ret.ite (fun _ => ?_) (fun h=>by cases h)
        refine Ret.bindE eI ?_
        refine Ret.bindE (s_Restrict hc hPl hks) ?_
        rw [vsB_of g2]
        refine Ret.bindE (v:=false) ?_ ?_
        · show (Option.bind (d_SameS (stepS (cp c ks) (rs P s) step) (rs P (stepS c s step))) fun r12=>some (!r12))=some false
          have hf:=k2.few hok
          rw [s_SameS _ _ (by omega) (by omega) (by omega),sameB_iff.2 (step_part hc hks hvs h1 h2 hd')];rfl
        exact Ret.some rfl
  · rintro b rfl
    rw [List.take_length]
  · rintro o rfl
    refine Ret.bindE (v:=true) ?_ (Ret.some rfl)
    rw [breach_any hc]
    simp only [Sum.elim_inl,cond_true,Option.bind_some]
    congr 1
    rw [beq_iff_eq]
    cases hpb:playB c party s with
    | false=>rfl
    | true=>
      obtain ⟨_,_,hv⟩:=playB_iff.1 hpb
      rw [Bool.true_and,Bool.true_and,Bool.eq_iff_iff,lost_parts hc R hv,List.any_eq_true]
      constructor
      · rintro ⟨P,hP,h⟩
        obtain ⟨i,hi,rfl⟩:=List.getElem_of_mem hP
        obtain ⟨r,hr,er,ep⟩:=parts_at (c:=c) (ρ:=ρ) hi
        obtain ⟨ks,hks⟩:=prt_ok hc hcv R r
        rw [ep,hks.eq] at h
        exact ⟨r,ks,hr,er,hks,h⟩
      · rintro ⟨r,ks,hr,er,hks,h⟩
        exact ⟨_,List.mem_map.2 ⟨r,rootsB_mem.2 ⟨hr,er⟩,rfl⟩,by rw [hks.eq];exact h⟩
end Go.Proofs.YtjkljacdbljkpaaGreatDoor
namespace Go.Proofs.YtjkljacdbljkpaaGreatDoor
open Go.ChangeShapes Go.WideShapes Go.RowKit
set_option maxRecDepth 100000
abbrev laidL : List (String × DataW Unit) := [("math/bits.deBruijn32tab", Rows.laid_math_bits_deBruijn32tab), ("math/bits.deBruijn64tab", Rows.laid_math_bits_deBruijn64tab), ("internal/strconv.uint64pow10", Rows.laid_internal_strconv_uint64pow10)]
theorem pow_data:(laidL.filter fun x=>x.1 == powName)=[(powName,Lib.tabData .u64 Lib.pow10Tab)]:=by kernel_rfl
theorem tabs_of_laid {W:World} (h:laidMet Tryz.prog laidL W):C0.tabs.p W∧C0.tabs.n≤W.heap.size:=by
  have h1:=h.filter (fun x=>x.1 == powName)
  rw [pow_data] at h1
  have h2:C0.tabs.p W:=Lib.tabIs_of_head (g:=0) (t:=((Tryz.prog.globals[0]?).map (·.type)).getD 0) (e:=189) (n:=20)
    (by kernel_rfl) (by kernel_rfl) (by kernel_rfl) (by kernel_rfl) (by kernel_rfl) (by kernel_rfl) h1
  exact ⟨h2,tabs0_size h2⟩
def cellsD:DataW Unit→Array Value
  | .agg ds=>(ds.map fun d=>match d with | .lit (.int k n)=>Value.int k n | _=>Value.bool false).toArray
  | _ => #[]
def setTab (w:World) (g:Nat) (d:DataW Unit):World:={w with heap:=w.heap.modify g fun | .cells _ t f=>.cells (cellsD d) t f | o=>o}
noncomputable def laidWorld (os:Os):World:=
  setTab (setTab (setTab (World.holding Tryz.prog os ⟨#[],#[],[]⟩) 1 Rows.laid_math_bits_deBruijn32tab) 2 Rows.laid_math_bits_deBruijn64tab) 0 Rows.laid_internal_strconv_uint64pow10
theorem laidWorld_met (os:Os) (args:Array Value):laidMet Tryz.prog laidL ((laidWorld os).forCall (fun _ _=>0) ⟨#[],args,[]⟩).memory:=
  laidMet_of_run3 8 (by kernel_rfl) (by kernel_rfl) (by kernel_rfl)
end Go.Proofs.YtjkljacdbljkpaaGreatDoor
namespace Go.Proofs.YtjkljacdbljkpaaGreatDoor.LComposeSteps
open Go.ChangeShapes Go.WideShapes Go.ChangeAt Go.RowKit
set_option linter.unusedVariables false
set_option maxRecDepth 100000
theorem all (ivs:List IV) (h:HasArgs [(true,ContractT.tys),(true,StateT.tys),(false,[.int .i64]),(false,[.int .i64])] ivs):APure C0 171 ivs (.bool true):=by
  match ivs,h with
  | [x0,x1,x2,x3],⟨a0,a1,a2,a3,_⟩=>
    obtain ⟨row0,rfl,r0⟩:=a0
    obtain ⟨c,rfl,ok_c⟩:=ContractT.opn r0
    obtain ⟨row1,rfl,r1⟩:=a1
    obtain ⟨s,rfl,ok_s⟩:=StateT.opn r1
    obtain ⟨c2,_,e2,k2,n2⟩:=hcs_cons a2
    cases e2
    obtain ⟨step,rfl,ok_step⟩:=hasC_int k2
    obtain ⟨c3,_,e3,k3,n3⟩:=hcs_cons a3
    cases e3
    obtain ⟨party,rfl,ok_party⟩:=hasC_int k3
    exact t_ComposeSteps c s step party true (m_ComposeSteps c s step party ok_c ok_s ok_step ok_party)
theorem own:ownKnob Tryz.prog.godebug=none:=by kernel_rfl
theorem laid:laidOutB Tryz.prog=true:=by kernel_rfl
theorem args:mapO (argC Tryz.prog) Tryz.f8.params.toList=some [(true,ContractT.tys),(true,StateT.tys),(false,[.int .i64]),(false,[.int .i64])]:=by kernel_rfl
theorem lifted (os:Os) (started:os.Started) (H:Type) (enc:TypeId×Value→H) :
    ReturnsInHanded {} Tryz.checked os 8 .any (fun w args=>(Rows.composeStepsSpec.pre enc Tryz.prog Tryz.f8 [] false w args∧laidMet Tryz.prog laidL w)∧sizedMet enc Tryz.prog Tryz.f8 (OpenSpec.ofChange Rows.composeStepsSpec) false w args) (Rows.composeStepsSpec.post enc Tryz.prog Tryz.f8 false true false false):=by
  refine returnsInHanded_of_change_and (C:=Tryz.checked) (X:=fun w _=>laidMet Tryz.prog laidL w) (fun _ _ _ hh h=>h.of_heap hh) own started (by kernel_rfl) Tryz.func8
    (ChangeSpec.witness_at (enc:=enc) (C:=Tryz.checked) (os:=os) (X:=fun w _=>laidMet Tryz.prog laidL w) false (laidWorld os) #[.agg #[.int .i64 0,.slice none 0 0,.slice none 0 0,.slice none 0 0,.slice none 0 0,.int .i64 0,.slice none 0 0],.agg #[.int .i64 0,.slice none 0 0,.slice none 0 0,.slice none 0 0],.int .i64 0,.int .i64 0] 8 rfl (by kernel_rfl) (by kernel_rfl) (by kernel_rfl) (by kernel_rfl) (by kernel_rfl) (laidWorld_met os _)) ?_
  intro W base args ds gs before hval hW _ hwt hL _
  exact law_contract (Cx:=C0) (tb:=4) 171 rfl LComposeSteps.args rfl (by kernel_rfl) rfl
    (fun ds h=>by match ds,h with | [_,_,_,_],_=>rfl) LComposeSteps.laid (by kernel_rfl) LComposeSteps.all W (tabs_of_laid hL) base args ds gs before hval hW hwt
theorem said:Rows.ComposeStepsSaid:=
  OpenClaim.holds_of_wide 8 Tryz.f8 rfl rfl rfl rfl rfl rfl rfl ⟨rfl,rfl,rfl,rfl,rfl⟩ rfl rfl rfl rfl rfl (by kernel_rfl) Tryz.func8 (by kernel_rfl)
    (of_decide_eq_true (by kernel_rfl)) (by unfold Func.isWrapper;first | (rw [if_pos (by decide +kernel)];kernel_rfl) | (rw [if_neg (by decide +kernel)];exact ⟨rfl,rfl⟩))
    (fun os started H enc _=>lifted os started H enc)
theorem holds:Rows.ComposeStepsCardSaid:=
  Claim7.holds_tied_plain_at .later [] [.data, .data, .data] true (true, "667d07e1e23b23c588405f52b6ef23b6fab58bb16b03a4a91b6f094234708974") false
    said (fun _ h=>by cases h) (by kernel_rfl) (fun _ h=>by cases h) composeSteps_row_tie rfl ⟨rfl,rfl⟩ (by kernel_rfl) rfl
    (fun f fn hf hfn=>by
      obtain rfl : f = 8 := Option.some.inj ((show Tryz.prog.funcNamed "estoppel/estoppellaw23.ComposeSteps" = some 8 by kernel_rfl).symm.trans hf) |>.symm
      obtain rfl:fn=Tryz.f8:=(Option.some.inj (Tryz.func8.symm.trans hfn)).symm
      refine ⟨by kernel_rfl,fun j t ht => ?_⟩
      have hall:(Tryz.f8.params.toList.all fun t => !(Tryz.prog.wantsStandIn t))=true:=by kernel_rfl
      have:=List.all_eq_true.1 hall t (by rw [Array.mem_toList_iff];exact Array.mem_of_getElem? ht)
      have h2:Tryz.prog.wantsStandIn t=false:=by simpa using this
      exact h2)
    (by kernel_rfl)
end Go.Proofs.YtjkljacdbljkpaaGreatDoor.LComposeSteps
namespace Go.Proofs.YtjkljacdbljkpaaGreatDoor
theorem composeSteps_holds:Rows.ComposeStepsCardSaid:=LComposeSteps.holds
end Go.Proofs.YtjkljacdbljkpaaGreatDoor
