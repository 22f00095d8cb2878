/-
  'arena.From': what it returns.
  'system.Start', 'arena.Build', 'Index'.
  What an arena holds: closed under moves, and all that can be reached.
  region.Ranks: what it returns for an arena is the number of moves in which a breach can be forced.
  region.Ranks: the queue.
  region.Ranks: all of it.
  A clause that has ended stays as it is; a breach stays a breach.
  RegionBreach: a breach is never left.
  What can be forced from a position, told without an arena.
  region.Safe and strategy's functions, told by positions.
  strategy.Advise: what it returns.
  Traces; what one step does when a party follows the advice.
  Functions of the program as the kernel reckons them: with fuel, and texts of small numbers. Printed by mkheads.py.
  Region's and strategy's functions, as the kernel reckons them. Printed by mkheads.py.
  StrategyKeeps: the advice keeps the party safe.
  strategy.Follow: what it returns.
  StrategyNoBreach: who can perform and follows the advice never comes into breach.
  The trace of a party that follows the advice, read step by step.
-/
import Derived.Test.YtjkljacdbljkpaaDoorSF10
import Derived.Test.YtjkljacdbljkpaaDoorSF06
namespace Go.Proofs.YtjkljacdbljkpaaDoor
open Go.RowKit
set_option linter.unusedVariables false
set_option linter.unusedSimpArgs false
set_option maxRecDepth 100000
abbrev XT:Type:=(List PosT)×(List (ByteArray×Int))×(List MoveT)
def GotP (c:ContractT) (party:Int) (p0 e:PosT) (L0:List PosT) (ms:List Int) (x:XT):Prop:=proc c e ms (L0,[])=some (x.1,x.2.2)∧FRel c x.2.1 x.1
theorem moves_len {c:ContractT} (hc:c.Ok) {party:Int} {e:PosT} (he:VS c e.state):(movesL c party e).length≤62:=by
  have sm:=small_of (hc.off.lt (by omega)) he.cv
  have sa:=sm.acts
  have:=actsL_len c party e c.acts.length
  unfold movesL
  cases e.own<;>cases decide (c.days≤e.state.day)<;>simp<;>omega
theorem GotP.facts {c:ContractT} (hc:c.Ok) {party:Int} {p0 e:PosT} {L0:List PosT} {ms:List Int} {x:XT} (he:VS c e.state) (hr:Rch c party p0 e) (hP:PInv c party p0 L0) (hms:∀ m∈ms,m∈movesL c party e) (h:GotP c party p0 e L0 ms x) :
    PInv c party p0 x.1∧x.2.2.length=ms.length:=by
  obtain ⟨h1,_,T,eT,hT,_⟩:=proc_inv hc he hr ms L0 x.1 [] x.2.2 hms hP h.1
  refine ⟨h1,?_⟩
  rw [eT,List.nil_append,←hT.1,List.length_map]
theorem one_move {c:ContractT} (hc:c.Ok) {party:Int} {p0 e:PosT} {L0:List PosT} {ms:List Int} {m:Int} {L:List PosT} {F:List (ByteArray×Int)} {K:List MoveT} {q:PosT} (he:VS c e.state) (hr:Rch c party p0 e) (hP:PInv c party p0 L0) (hms:∀ x∈ms,x∈movesL c party e) (hm:m∈movesL c party e) (hlen:ms.length≤100)
    (hq:q=target c e m) (h:GotP c party p0 e L0 ms (L,F,K)) {β:Type} {k:Int×(List PosT)×(List (ByteArray×Int))→Option β} {z:Option β} {Q:β→Prop}
    (hk:∀ (to:Int) (L':List PosT) (F':List (ByteArray×Int)),GotP c party p0 e L0 (ms++[m]) (L',F',K++[{step:=m,to:=to}])→appI (α:=MoveT) 16 K [({step:=m,to:=to}:MoveT)]=some (K++[{step:=m,to:=to}])→Ret (k (to,L',F')) Q)
    (hz:proc c e (ms++[m]) (L0,[])=none→Ret z Q) :
    Ret (Option.bind (d_text q) fun r=>(Option.bind (α:=(Int×(List PosT)×(List (ByteArray×Int))) ⊕ Unit) (bif ((mget r F).isSome) then some (.inl (((mget r F).getD 0),L,F)) else (bif ((L.length:Int) == 1500) then some (.inr ()) else (Option.bind (appI (α:=PosT) 88 L [q]) fun e2=>some (.inl ((L.length:Int),e2,(mset r (L.length:Int) F)))))) (Sum.elim k (fun _=>z)))) Q:=by
  obtain ⟨hPI,hKl⟩:=h.facts hc he hr hP hms
  have hvq:VS c q.state:=by rw [hq];exact target_vs hc he hm
  refine Ret.bindE (s_text hc hvq) ?_
  refine Ret.bindE (visit_eq h.2 hvq hPI.len) ?_
  have happ:proc c e (ms++[m]) (L0,[])=(match visit L q with | none=>none | some (to,L')=>some (L',K++[{step:=m,to:=to}])):=by
    rw [proc_append,h.1]
    simp only [Option.bind_some,proc,hq]
    all_goals (cases visit L (target c e m)<;>rfl)
  cases hv:visit L q with
  | none=>
    rw [hv] at happ
    exact hz happ
  | some x=>
    obtain ⟨to,L'⟩:=x
    rw [hv] at happ
    refine hk to L' (visF L F q) ⟨happ,FRel.visit h.2 hvq hv⟩ (appI_of ?_)
    simp only at hKl
    rw [hKl];simp;omega
theorem acts_split (c:ContractT) (party:Int) (p:PosT) {m n:Nat} (h:m≤n):∃ r,actsL c party p n=actsL c party p m++r:=by
  induction h with
  | refl=>exact ⟨[],by simp⟩
  | step _ ih=>
    obtain ⟨r,hr⟩:=ih
    rw [actsL_succ,hr]
    exact ⟨_,List.append_assoc _ _ _⟩
theorem proc_none_app {c:ContractT} {e:PosT} {a b:List Int} {s:List PosT×List MoveT} (h:proc c e a s=none):proc c e (a++b) s=none:=by rw [proc_append,h];rfl
structure FromOk (c:ContractT) (party:Int) (p:PosT) (L:List PosT) (M:List (List MoveT)):Prop where
  inv:PInv c party p L
  first:L[0]?=some p
  len:M.length=L.length
  mv:∀ (j:Nat) (T:List MoveT) (e:PosT),M[j]?=some T→L[j]?=some e→MvOk c party L e (movesL c party e) T
  chk:chkAll 0 1 M=some L.length
def Many (c:ContractT) (party:Int) (p:PosT):Prop:=∃ L1,PInv c party p L1∧L1.length=1500∧∃ q,Rch c party p q∧q ∉ L1
structure FInv (c:ContractT) (party:Int) (p:PosT) (s:Int×(List PosT)×(List (List MoveT))×(List (ByteArray×Int))):Prop where
  i:s.1=(s.2.2.1.length:Int)
  le:s.2.2.1.length≤s.2.1.length
  inv:PInv c party p s.2.1
  rel:FRel c s.2.2.2 s.2.1
  first:s.2.1[0]?=some p
  mv:∀ (j:Nat) (T:List MoveT) (e:PosT),s.2.2.1[j]?=some T→s.2.1[j]?=some e→MvOk c party s.2.1 e (movesL c party e) T
  chk:chkAll 0 1 s.2.2.1=some s.2.1.length
theorem from_ret {c:ContractT} (hc:c.Ok) {party:Int} {p:PosT} (hpl:playB c party p.state=true) :
    Ret (d_From c party p) (fun r=>(r.2=0∧r.1.party=party∧FromOk c party p r.1.positions r.1.moves)∨(r.2=3∧Many c party p)):=by
  obtain ⟨hp0,hp1,hv⟩:=playB_iff.1 hpl
  have sm:=small_of (hc.off.lt (by omega)) hv.cv
  have sa:=sm.acts
  unfold d_From
  refine Ret.bindE (by rw [s_playable hc,hpl]) ?_
  refine Ret.ite (fun _ => ?_) (fun h=>by cases h)
  refine Ret.bindE (s_copied hc hv) ?_
  refine Ret.bindE (s_text hc hv) ?_
  refine Ret.bind (P:=fun o:((List PosT)×(List (List MoveT))) ⊕ Unit=>(∃ L M,o=.inl (L,M)∧FromOk c party p L M)∨(o=.inr ()∧Many c party p)) ?_ ?_
  · refine Ret.bind (P:=fun o:((List PosT)×(List (List MoveT))) ⊕ Unit=>(∃ L M,o=.inl (L,M)∧FromOk c party p L M)∨(o=.inr ()∧Many c party p)) (Ret.iter (FInv c party p) (fun s=>(1501 - s.1).toNat) ?_ ?_) ?_
    · refine ⟨rfl,by simp,⟨fun q hq => ?_,by simp,fun q hq => ?_,by simp⟩,?_,rfl,fun j T e h=>by simp at h,rfl⟩
      · rw [List.mem_singleton.1 hq];exact hv
      · rw [List.mem_singleton.1 hq];exact .base
      · intro q hq
        simp only [mset,mget,posIdx,List.mem_singleton]
        by_cases e:q = {state:=p.state,own:=p.own}
        · subst e
          simp [List.idxOf_cons,txt]
        · have e2:txt q≠txt p:=fun h=>e (txt_inj hq hv h)
          rw [if_neg e2,if_neg e]
    · rintro ⟨i,L,M,F⟩ ⟨hi,hle,hinv,hrel,hfst,hmv,hchk⟩
      simp only at hi hle hinv hrel hfst hmv hchk ⊢
      subst hi
      have hlen:=hinv.len
      refine Ret.ite (fun hlt => ?_) (fun hge => ?_)
      · have hlt:=of_decide_eq_true hlt
        have hML:M.length < L.length:=by omega
        have heq:=List.getElem?_eq_getElem hML
        have hme:=List.getElem_mem hML
        have he:=hinv.vs _ hme
        have hr:=hinv.rch _ hme
        generalize L[M.length]=e at heq he hr
        have hmlen:=moves_len hc (party:=party) he
        refine Ret.bind (P:=fun o:XT ⊕ Unit=>(∃ x,o=.inl x∧GotP c party p e L (movesL c party e) x)∨(o=.inr ()∧proc c e (movesL c party e) (L,[])=none)) ?_ ?_
        · refine Ret.bindE (idxI_at heq) ?_
          refine Ret.bindE (x:=d_78b c party e) (v:=()) rfl ?_
          refine Ret.bind (P:=fun o:XT ⊕ (Unit ⊕ XT)=>(∃ x,o=.inl x∧e.state.day < c.days∧GotP c party p e L (bif e.own then [-2] else []) x)∨(o=.inr (.inl ())∧proc c e (bif e.own then [-2] else []) (L,[])=none)∨(∃ x,o=.inr (.inr x)∧c.days≤e.state.day∧GotP c party p e L (bif e.own then [-2] else []) x)) ?_ ?_
          · have hbase:GotP c party p e L [] (L,F,[]):=⟨rfl,hrel⟩
            cases ho:e.own with
            | false=>
              simp only [cond_false]
              refine Ret.ite (fun hd=>Ret.some (.inr (.inr ⟨_,rfl,of_decide_eq_true hd,hbase⟩))) (fun hd=>Ret.some (.inl ⟨_,rfl,by have:=of_decide_eq_false hd;omega,hbase⟩))
            | true=>
              simp only [cond_true]
              refine Ret.bindE (s_copied hc he) ?_
              have hm2:(-2:Int)∈movesL c party e:=mem_moves.2 (.inl ⟨ho,rfl⟩)
              refine one_move hc he hr hinv (fun x hx=>by cases hx) hm2 (by simp) (by unfold target;rw [if_pos rfl]) hbase (fun to L' F' hg ha => ?_) (fun hz=>Ret.some (.inr (.inl ⟨rfl,hz⟩)))
              refine Ret.bindE ha ?_
              refine Ret.ite (fun hd=>Ret.some (.inr (.inr ⟨_,rfl,of_decide_eq_true hd,hg⟩))) (fun hd=>Ret.some (.inl ⟨_,rfl,by have:=of_decide_eq_false hd;omega,hg⟩))
          · rintro o (⟨⟨L1,F1,K1⟩,rfl,hd,hg⟩ | ⟨rfl,hn⟩ | ⟨⟨L1,F1,K1⟩,rfl,hd,hg⟩)
            · -- there is time left: the tick
              have hmv0:movesL c party e=(bif e.own then [-2] else [-1])++actsL c party e c.acts.length:=by
                unfold movesL
                rw [decide_eq_false (show ¬ c.days≤e.state.day by omega)]
                cases e.own<;>rfl
              refine Ret.bind (P:=fun o:XT ⊕ Unit=>(∃ x,o=.inl x∧GotP c party p e L (bif e.own then [-2] else [-1]) x)∨(o=.inr ()∧proc c e (bif e.own then [-2] else [-1]) (L,[])=none)) ?_ ?_
              · cases ho:e.own with
                | true=>rw [ho] at hg;exact Ret.some (.inl ⟨_,rfl,hg⟩)
                | false=>
                  rw [ho] at hg
                  simp only [cond_false] at hg ⊢
                  obtain ⟨est,_⟩:=step_ok (a := -1) hc he (by omega) (by omega) hd
                  refine Ret.bindE est ?_
                  have hm1:(-1:Int)∈movesL c party e:=mem_moves.2 (.inr (.inl ⟨hd,ho,rfl⟩))
                  refine one_move hc he hr hinv (fun x hx=>by cases hx) hm1 (by simp) (by unfold target;rw [if_neg (by omega)]) hg (fun to L' F' hg ha => ?_) (fun hz=>Ret.some (.inr ⟨rfl,hz⟩))
                  refine Ret.bindE ha ?_
                  exact Ret.some (.inl ⟨_,rfl,hg⟩)
              · rintro o (⟨⟨L2,F2,K2⟩,rfl,hg2⟩ | ⟨rfl,hn⟩)
                · -- the acts
                  refine Ret.bind (P:=fun o:XT ⊕ XT=>(∃ x,o=.inl x∧GotP c party p e L (movesL c party e) x)∨(∃ x,o=.inr x∧proc c e (movesL c party e) (L,[])=none)) ?_ ?_
                  · have hsub:∀ i,i≤c.acts.length→∀ x∈(bif e.own then [-2] else [-1])++actsL c party e i,x∈movesL c party e:=by
                      intro i hi x hx
                      rw [hmv0]
                      obtain ⟨r,hr'⟩:=acts_split c party e hi
                      rw [hr']
                      rcases List.mem_append.1 hx with h | h
                      · exact List.mem_append.2 (.inl h)
                      · exact List.mem_append.2 (.inr (List.mem_append.2 (.inl h)))
                    refine Ret.forL (n:=c.acts.length) (fun i s=>GotP c party p e L ((bif e.own then [-2] else [-1])++actsL c party e i) s) (by omega) ?_ ?_ (fun s hs=>.inl ⟨s,rfl,by rw [hmv0];exact hs⟩)
                    · show GotP c party p e L ((bif e.own then [-2] else [-1])++actsL c party e 0) (L2,F2,K2)
                      have:actsL c party e 0=[]:=rfl
                      rw [this,List.append_nil];exact hg2
                    · rintro i ⟨L3,F3,K3⟩ hi hg3
                      simp only
                      have hx:=List.getElem?_eq_getElem hi
                      have av:=av_of hv.cv hx
                      have hmvb:mvB c party e i=(((doerI e.state.holders c.acts[i] == party) == e.own) && !sameB (stepS c e.state i) e.state):=by simp only [mvB,hx]
                      have hlenA:=actsL_len c party e i
                      refine Ret.bind (P:=fun o:XT ⊕ Unit=>(∃ x,o=.inl x∧GotP c party p e L ((bif e.own then [-2] else [-1])++actsL c party e (i+1)) x)∨(o=.inr ()∧proc c e ((bif e.own then [-2] else [-1])++actsL c party e (i+1)) (L,[])=none)) ?_ ?_
                      · refine Ret.bindE (idxI_at hx) ?_
                        refine Ret.bindE (doer_idx he av) ?_
                        refine Ret.ite (fun hq => ?_) (fun hq => ?_)
                        · obtain ⟨est,hvs,_⟩:=step_ok (a:=(i:Int)) hc he (by omega) (by omega) hd
                          have hfew:=hvs.few hc
                          refine Ret.bindE est ?_
                          refine Ret.bindE (s_SameS (stepS c e.state i) e.state (by omega) (by omega) (by omega)) ?_
                          refine Ret.ite (fun hs=>Ret.some (.inl ⟨_,rfl,?_⟩)) (fun hs => ?_)
                          · rw [actsL_succ,hmvb,hq,hs]
                            simpa using hg3
                          · have hb:mvB c party e i=true:=by rw [hmvb,hq,hs];rfl
                            have hmi:(i:Int)∈movesL c party e:=mem_moves.2 (.inr (.inr ⟨hd,i,hi,hb,rfl⟩))
                            have hact:actsL c party e (i+1)=actsL c party e i++[(i:Int)]:=by rw [actsL_succ,hb];rfl
                            rw [hact,←List.append_assoc]
                            refine one_move hc he hr hinv (hsub i (by omega)) hmi (by cases e.own<;>simp<;>omega) (by unfold target;rw [if_neg (by omega)]) hg3 (fun to L' F' hg ha => ?_) (fun hz=>Ret.some (.inr ⟨rfl,hz⟩))
                            refine Ret.bindE ha ?_
                            exact Ret.some (.inl ⟨_,rfl,hg⟩)
                        · refine Ret.some (.inl ⟨_,rfl,?_⟩)
                          rw [actsL_succ,hmvb,hq]
                          simpa using hg3
                      · rintro o (⟨x,rfl,hgx⟩ | ⟨rfl,hn⟩)
                        · exact Ret.some hgx
                        · refine Ret.some (.inr ⟨_,rfl,?_⟩)
                          rw [hmv0]
                          obtain ⟨r,hr'⟩:=acts_split c party e (show i+1≤c.acts.length by omega)
                          rw [hr',←List.append_assoc]
                          exact proc_none_app hn
                  · rintro o (⟨x,rfl,hgx⟩ | ⟨x,rfl,hn⟩)
                    · exact Ret.some (.inl ⟨_,rfl,hgx⟩)
                    · exact Ret.some (.inr ⟨rfl,hn⟩)
                · refine Ret.some (.inr ⟨rfl,?_⟩)
                  rw [hmv0];exact proc_none_app hn
            · refine Ret.some (.inr ⟨rfl,?_⟩)
              unfold movesL;exact proc_none_app hn
            · refine Ret.some (.inl ⟨_,rfl,?_⟩)
              have:movesL c party e=(bif e.own then [-2] else []):=by
                unfold movesL
                rw [decide_eq_true hd]
                simp
              rw [this];exact hg
        · rintro o (⟨⟨L',F',K'⟩,rfl,hg⟩ | ⟨rfl,hn⟩)
          · obtain ⟨h1,⟨r1,e1⟩,T,eT,hT,hch⟩:=proc_inv hc he hr (movesL c party e) L L' [] K' (fun m hm=>hm) hinv hg.1
            simp only [List.nil_append] at eT
            subst eT
            simp only [Sum.elim_inl]
            refine Ret.bindE (appI_of (by simp;omega)) ?_
            rw [wrap_i64 (by omega) (by omega)]
            refine Ret.some ⟨⟨by simp,?_,h1,hg.2,by show L'[0]?=some p;rw [e1];exact get_app hfst,?_,?_⟩,?_⟩
            · show (M++[K']).length≤L'.length
              rw [e1];simp;omega
            · show ∀ (j:Nat) (T:List MoveT) (e:PosT),(M++[K'])[j]?=some T→L'[j]?=some e→MvOk c party L' e (movesL c party e) T
              intro j T e' hj he'
              by_cases hjm:j < M.length
              · rw [List.getElem?_append_left hjm] at hj
                have hjL:L[j]?=some e':=by
                  rw [e1,List.getElem?_append_left (by omega)] at he';exact he'
                rw [e1]
                exact (hmv j T e' hj hjL).app r1
              · have hj2:j=M.length:=by
                  have:=(List.getElem?_eq_some_iff.1 hj).1
                  simp at this;omega
                subst hj2
                rw [List.getElem?_append_right (Nat.le_refl _)] at hj
                simp at hj
                subst hj
                have:L'[M.length]?=some e:=by rw [e1];exact get_app heq
                rw [this] at he';cases he'
                exact hT
            · show chkAll 0 1 (M++[K'])=some L'.length
              rw [chkAll_snoc,hchk]
              simp only [Option.bind_some,Nat.zero_add]
              rw [if_pos hML];exact hch
            · show (1501 - ((M.length:Int)+1)).toNat < (1501 - (M.length:Int)).toNat
              omega
          · obtain ⟨L1,h1,h2⟩:=proc_none hc he hr (movesL c party e) L [] (fun m hm=>hm) hinv hn
            exact Ret.some (.inr ⟨rfl,L1,h1,h2⟩)
      · have hge:=of_decide_eq_false hge
        exact Ret.some (.inl ⟨L,M,rfl,hinv,hfst,by omega,hmv,hchk⟩)
    · rintro o (⟨L,M,rfl,h⟩ | ⟨rfl,h⟩)
      · exact Ret.some (.inl ⟨L,M,rfl,h⟩)
      · exact Ret.some (.inr ⟨rfl,h⟩)
  · rintro o (⟨L,M,rfl,h⟩ | ⟨rfl,h⟩)
    · exact Ret.some (.inl ⟨rfl,rfl,h⟩)
    · exact Ret.some (.inr ⟨rfl,h⟩)
end Go.Proofs.YtjkljacdbljkpaaDoor
namespace Go.Proofs.YtjkljacdbljkpaaDoor
open Go.RowKit
set_option linter.unusedVariables false
set_option linter.unusedSimpArgs false
set_option maxRecDepth 100000
def initK (k:ClauseT) (m:MarkT):MarkT:=bif k.waived then {status:=5,left:=0,got:=0,bearer := -1,paused:=false} else {status:=0,left:=0,got:=0,bearer := -1,paused:=false}
def mark0:MarkT:={status:=0,left:=0,got:=0,bearer:=0,paused:=false}
theorem Start_bad {c:ContractT} (hc:c.Ok) (h:(validR c).1≠0):d_Start c=some (noS,1):=by
  unfold d_Start
  rw [hc.valid]
  have:((validR c).1 == 0)=false:=beq_eq_false_iff_ne.2 h
  simp only [Option.bind_some,this,cond_false];rfl
theorem Start_ret {c:ContractT} (hc:c.Ok) (hv:(validR c).1=0):Ret (d_Start c) (fun r=>r.2=0∧VS c r.1):=by
  have ho:=hc.off.lt (by omega:0 < 8)
  have sm:=small_of ho hv
  have s1:=sm.holders
  have s2:=sm.acts
  have s3:=sm.clauses
  have s4:=sm.parties
  have s5:=sm.days
  unfold d_Start
  refine Ret.bindE hc.valid ?_
  refine Ret.ite (fun _ => ?_) (fun h=>absurd hv (beq_eq_false_iff_ne.1 h))
  refine Ret.bindE (cloneI_of (by omega)) ?_
  refine Ret.bindE (mkN_of (show c.acts.length < 1000 by omega) (by omega)) ?_
  refine Ret.bindE (mkN_of (show c.clauses.length < 1000 by omega) (by omega)) ?_
  have hok0:MOk c ((List.replicate c.clauses.length mark0).mapIdx (atK c initK)):=by
    refine ⟨by simp,fun i k m hk hm => ?_⟩
    rw [List.getElem?_mapIdx] at hm
    obtain ⟨m0,_,rfl⟩:=Option.map_eq_some_iff.1 hm
    simp only [atK,hk,initK]
    have e4:decide (-1 < c.parties)=true:=decide_eq_true (by omega)
    cases hw:k.waived with
    | true=>
      show mrkB c.parties k {status:=5,left:=0,got:=0,bearer := -1,paused:=false}=true
      refine mrkB_iff.2 (.inr (.inr (.inr ⟨.inr (.inr rfl),?_⟩)))
      show ((0:Int) == 0&&(decide ((0:Int)≤0)&&(decide ((0:Int)≤9)&&(decide ((-1:Int) ≤ -1)&&(decide (-1 < c.parties) && !false)))))=true
      rw [e4];rfl
    | false=>exact mrkB_iff.2 (.inl ⟨rfl,hw,rfl⟩)
  refine Ret.bind (P:=fun o:List MarkT ⊕ Unit=>o=.inl ((List.replicate c.clauses.length mark0).mapIdx (atK c initK))) ?_ ?_
  · refine Ret.of ?_
    have hl:(c.clauses.length:Int)=((List.replicate c.clauses.length mark0).length:Int):=by simp
    show forR (c.clauses.length:Int) _ (List.replicate c.clauses.length mark0)=_
    conv=>lhs;arg 1;rw [hl]
    refine forR_mapIdx (List.replicate c.clauses.length mark0) (atK c initK) (by simp;omega) ?_
    intro i m s h1 h2 h3
    have hi:i < c.clauses.length:=by simpa using (List.getElem?_eq_some_iff.1 h1).1
    have hk:=List.getElem?_eq_getElem hi
    simp only [idxI_at hk,Option.bind_some,idxN_nat hi,h3,get_set h3,atK,hk,initK,List.set_set]
    cases c.clauses[i].waived<;>rfl
  · rintro o rfl
    simp only [Sum.elim_inl]
    have hs:=start_ret c 0 c.holders (List.replicate c.acts.length false) _ ho hv rfl (held_of hv) hok0
    unfold startO at hs
    rw [List.length_replicate,show ((List.replicate c.clauses.length mark0).mapIdx (atK c initK)).length=c.clauses.length by simp] at hs
    refine Ret.bind hs fun r hr => ?_
    refine Ret.bindE (eqN_of (by simp)) ?_
    refine Ret.bindE (eqN_of hr.ok.1.symm) ?_
    refine Ret.some ⟨rfl,hv,⟨by show (0:Int)≤0;omega,by show (0:Int)≤c.days;omega⟩,rfl,by simp,hr.ok.1,held_of hv,?_,hr.ok.2,hr.nr⟩
    intro i a _ hu
    simp only [List.getElem?_replicate] at hu
    split at hu
    · cases hu
    · cases hu
def arena0:ArenaT:={party:=0,positions:=[],moves:=[]}
theorem From_bad {c:ContractT} (hc:c.Ok) {party:Int} {p:PosT} (h:playB c party p.state=false):d_From c party p=some (arena0,1):=by
  unfold d_From
  rw [s_playable hc,h];rfl
def BuildP (c:ContractT) (party:Int) (r:ArenaT×Int):Prop:=
  r.2≠0∨(r.2=0∧∃ s0,d_Start c=some (s0,0)∧VS c s0∧0≤party∧party < c.parties∧r.1.party=party∧FromOk c party {state:=s0,own:=true} r.1.positions r.1.moves)
theorem build_ret {c:ContractT} (hc:c.Ok) (party:Int):Ret (d_Build c party) (BuildP c party):=by
  unfold d_Build
  by_cases hv:(validR c).1=0
  · obtain ⟨⟨s0,e0⟩,hst,h0,hvs⟩:=Start_ret hc hv
    simp only at h0 hvs
    subst h0
    refine Ret.bindE hst ?_
    refine Ret.ite (fun _ => ?_) (fun h=>by cases h)
    cases hpl:playB c party s0 with
    | false=>
      refine Ret.bindE (From_bad hc (p:={state:=s0,own:=true}) hpl) ?_
      exact Ret.some (.inl (by simp))
    | true=>
      obtain ⟨h1,h2,_⟩:=playB_iff.1 hpl
      refine Ret.bind (from_ret hc (p:={state:=s0,own:=true}) hpl) ?_
      rintro ⟨a,e⟩ (⟨h3,h4,h5⟩ | ⟨h3,_⟩)
      · exact Ret.some (.inr ⟨h3,s0,hst,hvs,h1,h2,h4,h5⟩)
      · simp only at h3
        exact Ret.some (.inl (by show e≠0;omega))
  · refine Ret.bindE (Start_bad hc hv) ?_
    exact Ret.some (.inl (by simp))
end Go.Proofs.YtjkljacdbljkpaaDoor
namespace Go.Proofs.YtjkljacdbljkpaaDoor
open Go.RowKit
set_option linter.unusedVariables false
set_option linter.unusedSimpArgs false
set_option maxRecDepth 100000
theorem nodup_le {α:Type} [BEq α] [LawfulBEq α]:∀ {L1 L2:List α},L1.Nodup→(∀ x∈L1,x∈L2)→L1.length≤L2.length
  | [],L2,_,_=>by simp
  | a::l,L2,h,hs=>by
    obtain ⟨ha,hl⟩:=List.nodup_cons.1 h
    have hm:=hs a List.mem_cons_self
    have ih:=nodup_le (L1:=l) (L2:=L2.erase a) hl fun x hx=>(List.mem_erase_of_ne (by rintro rfl;exact ha hx)).2 (hs x (List.mem_cons_of_mem _ hx))
    rw [List.length_erase_of_mem hm] at ih
    have:0 < L2.length:=List.length_pos_of_mem hm
    simp only [List.length_cons];omega
theorem FromOk.closed {c:ContractT} {party:Int} {p:PosT} {L:List PosT} {M:List (List MoveT)} (F:FromOk c party p L M) {q:PosT} (hq:q∈L) {m:Int} (hm:m∈movesL c party q):target c q m∈L:=by
  obtain ⟨j,hj,e⟩:=List.getElem_of_mem hq
  have hjM:j < M.length:=by rw [F.len];exact hj
  have h:=F.mv j M[j] q (List.getElem?_eq_getElem hjM) (by rw [List.getElem?_eq_getElem hj,e])
  rw [←h.1] at hm
  obtain ⟨t,ht,rfl⟩:=List.mem_map.1 hm
  exact List.mem_of_getElem? (h.2 t ht).2
theorem FromOk.rch {c:ContractT} {party:Int} {p:PosT} {L:List PosT} {M:List (List MoveT)} (F:FromOk c party p L M) {q x:PosT} (hq:q∈L) (h:Rch c party q x):x∈L:=by
  induction h with
  | base=>exact hq
  | step _ hm ih=>exact F.closed ih hm
end Go.Proofs.YtjkljacdbljkpaaDoor
namespace Go.Proofs.YtjkljacdbljkpaaDoor
open Go.RowKit
set_option linter.unusedVariables false
set_option linter.unusedSimpArgs false
set_option maxRecDepth 100000
def at_ (l:List Int) (i:Nat):Int:=l[i]?.getD 0
theorem at_of {l:List Int} {i:Nat} (h:i < l.length):l[i]?=some (at_ l i):=by unfold at_;rw [List.getElem?_eq_getElem h];rfl
theorem at_set {l:List Int} {i:Nat} (h:i < l.length) (x:Int):at_ (l.set i x)=upd (at_ l) i x:=by
  funext j
  unfold at_ upd
  by_cases e:j=i
  · subst e;rw [if_pos rfl,List.getElem?_set_self h];rfl
  · rw [if_neg e,List.getElem?_set_ne (Ne.symm e)]
def cst (l:List Nat):List Int:=l.map fun x:Nat=>(x:Int)
theorem cst_len (l:List Nat):(cst l).length=l.length:=List.length_map _
theorem cst_app (l m:List Nat):cst (l++m)=cst l++cst m:=List.map_append
def badB (c:ContractT) (party:Int) (marks:List MarkT) (i:Nat):Bool:=match c.clauses[i]?,marks[i]? with
  | some k,some m=>k.final&&((m.status == 4)&&(m.bearer == party))
  | _,_=>false
def lostB (c:ContractT) (s:StateT) (party:Int):Bool := !((List.range s.marks.length).all fun i => !badB c party s.marks i)
theorem lost_loop (c:ContractT) (s:StateT) (party:Int) (hl:s.marks.length=c.clauses.length) (hs:s.marks.length < 4611686018427387904) :
    (forR (σ:=Unit) (ρ:=Unit) (s.marks.length:Int) (fun i1 s1=>(Option.bind (idxI s.marks (i1:Int)) fun e1=>(Option.bind (Option.bind (idxI c.clauses (i1:Int)) fun e2=>(bif e2.final then (bif (e1.status == 4) then some (e1.bearer == party) else some false) else some false)) fun v1=>(bif v1 then some (.inr ()) else some (.inl ()))))) ()) =
      some (bif lostB c s party then .inr () else .inl ()):=by
  rw [forR_allN (fun i => !badB c party s.marks i) hs (fun j hj=>by
    have hk:j < c.clauses.length:=by omega
    simp only [idxI_nat',List.getElem?_eq_getElem hj,List.getElem?_eq_getElem hk,Option.bind_some,badB]
    cases (c.clauses[j].final)<;>cases (s.marks[j].status == 4)<;>cases (s.marks[j].bearer == party)<;>rfl)]
  unfold lostB
  cases ((List.range s.marks.length).all fun i => !badB c party s.marks i)<;>rfl
theorem s_lost {c:ContractT} (hc:c.Ok) {s:StateT} (hv:VS c s) (party:Int):d_lost c s party=some (lostB c s party):=by
  have:=(hv.few hc).2.2
  unfold d_lost
  rw [lost_loop c s party hv.lm (by omega)]
  cases lostB c s party<;>rfl
def gm (c:ContractT) (a:ArenaT):Gm where
  n:=a.positions.length
  own i:=match a.positions[i]? with | some q=>q.own | none=>false
  lost i:=match a.positions[i]? with | some q=>lostB c q.state a.party | none=>false
  succ i:=match a.moves[i]? with | some T=>T.map fun m=>m.to.toNat | none=>[]
structure ArOk (c:ContractT) (party:Int) (p:PosT) (a:ArenaT):Prop where
  p0:0≤party
  p1:party < c.parties
  pa:a.party=party
  F:FromOk c party p a.positions a.moves
section
variable {c:ContractT} {party:Int} {p:PosT} {a:ArenaT}
theorem ArOk.mv (A:ArOk c party p a) {i:Nat} (hi:i < a.positions.length):∃ T,a.moves[i]?=some T∧MvOk c party a.positions a.positions[i] (movesL c party a.positions[i]) T:=by
  have h:i < a.moves.length:=by rw [A.F.len];exact hi
  exact ⟨a.moves[i],List.getElem?_eq_getElem h,A.F.mv i _ _ (List.getElem?_eq_getElem h) (List.getElem?_eq_getElem hi)⟩
theorem ArOk.succ (A:ArOk c party p a) {i:Nat} (hi:i < a.positions.length) {T:List MoveT} (hT:a.moves[i]?=some T):(gm c a).succ i=T.map fun m=>m.to.toNat:=by
  simp only [gm,hT]
theorem ArOk.to (A:ArOk c party p a) {i:Nat} (hi:i < a.positions.length) {T:List MoveT} (hT:a.moves[i]?=some T) {m:MoveT} (hm:m∈T):0≤m.to∧m.to < a.positions.length:=by
  obtain ⟨T',h1,_,h3⟩:=A.mv hi
  rw [hT] at h1;cases h1
  obtain ⟨h4,h5⟩:=h3 m hm
  have:=(List.getElem?_eq_some_iff.1 h5).1
  omega
theorem ArOk.len (hc:c.Ok) (A:ArOk c party p a) {i:Nat} (hi:i < a.positions.length) {T:List MoveT} (hT:a.moves[i]?=some T):T.length≤62:=by
  obtain ⟨T',h1,h2,_⟩:=A.mv hi
  rw [hT] at h1;cases h1
  have:=moves_len hc (party:=party) (A.F.inv.vs _ (List.getElem_mem hi))
  rw [←List.length_map (f:=fun x:MoveT=>x.step),h2];exact this
theorem ArOk.closed (A:ArOk c party p a):∀ i,i < (gm c a).n→∀ t∈(gm c a).succ i,t < (gm c a).n:=fun i hi t ht=>by
  obtain ⟨T,h1,_⟩:=A.mv hi
  rw [A.succ hi h1] at ht
  obtain ⟨m,hm,rfl⟩:=List.mem_map.1 ht
  have:=A.to hi h1 hm
  show m.to.toNat < a.positions.length
  omega
theorem ArOk.slen (hc:c.Ok) (A:ArOk c party p a) (i:Nat) (hi:i < (gm c a).n):((gm c a).succ i).length≤62:=by
  obtain ⟨T,h1,_⟩:=A.mv hi
  rw [A.succ hi h1,List.length_map];exact A.len hc hi h1
theorem s_wellFormed (hc:c.Ok) (A:ArOk c party p a):d_wellFormed c a=some true:=by
  have h0:=A.p0
  have h1:=A.p1
  have hlen:=A.F.inv.len
  refine Ret.eq ?_
  unfold d_wellFormed
  rw [A.pa]
  refine Ret.bindE (v:=false) (by rw [decide_eq_false (show ¬ party < 0 by omega),decide_eq_false (show ¬ c.parties≤party by omega),A.F.len];simp) ?_
  refine Ret.ite (fun h=>by cases h) (fun _ => ?_)
  refine Ret.bind (P:=fun o:Unit ⊕ Unit=>o=.inl ()) (Ret.forL (fun _ _=>True) (by omega) trivial (fun i s hi _ => ?_) (fun _ _=>rfl)) ?_
  · obtain ⟨T,hT,hM⟩:=A.mv hi
    have hTl:=A.len hc hi hT
    refine Ret.bindE (idxI_at (List.getElem?_eq_getElem hi)) ?_
    refine Ret.bindE (idxI_at hT) ?_
    refine Ret.bind (P:=fun o:Unit ⊕ Unit=>o=.inl ()) (Ret.forL (fun _ _=>True) (by omega) trivial (fun k s hk _ => ?_) (fun _ _=>rfl)) ?_
    · have:=A.to hi hT (List.getElem_mem hk)
      refine Ret.bindE (idxI_at (List.getElem?_eq_getElem hk)) ?_
      refine Ret.bindE (v:=false) (by rw [decide_eq_false (show ¬ T[k].to < 0 by omega),decide_eq_false (show ¬ (a.positions.length:Int)≤T[k].to by omega)];rfl) ?_
      exact Ret.some trivial
    · rintro _ rfl
      refine Ret.bindE (by rw [s_ValidS c _ hc,vsB_of (A.F.inv.vs _ (List.getElem_mem hi))]) ?_
      exact Ret.some trivial
  · rintro _ rfl
    exact Ret.some rfl
structure L1 (G:Gm) (i k:Nat) (bef:List (List Int)):Prop where
  len:bef.length=G.n
  row:∀ t,t < G.n→∃ l:List Nat,bef[t]?=some (cst l)∧l.length≤62*i+k∧∀ x,l.count x=if x < i then (G.succ x).count t else if x=i then ((G.succ i).take k).count t else 0
theorem L1.next {G:Gm} {i k:Nat} {bef:List (List Int)} (h:L1 G i k bef) (hk:k=(G.succ i).length) (hl:k≤62):L1 G (i+1) 0 bef:=by
  refine ⟨h.len,fun t ht => ?_⟩
  obtain ⟨l,h1,h2,h3⟩:=h.row t ht
  refine ⟨l,h1,by omega,fun x => ?_⟩
  rw [h3 x]
  by_cases e:x < i
  · rw [if_pos e,if_pos (by omega)]
  · rw [if_neg e]
    by_cases e2:x=i
    · subst e2;rw [if_pos rfl,if_pos (by omega),hk,List.take_length]
    · rw [if_neg e2,if_neg (by omega)]
      split<;>simp
theorem L1.step {G:Gm} {i k:Nat} {bef:List (List Int)} (h:L1 G i k bef) (hn:G.n≤1500) (hi:i < G.n) (hk:k≤62) {to:Nat} (ht:(G.succ i)[k]?=some to) (hto:to < G.n):Ret (nestApp bef G.n (to:Int) (i:Int)) (L1 G i (k+1)):=by
  obtain ⟨l,h1,h2,h3⟩:=h.row to hto
  have e:nestApp bef G.n (to:Int) (i:Int)=some (bef.set to (cst (l++[i]))):=by
    unfold nestApp
    rw [if_pos ⟨by omega,by omega,by omega⟩,Int.toNat_natCast,h1]
    simp only
    rw [if_pos (by rw [cst_len];omega),cst_app];rfl
  refine ⟨_,e,by rw [List.length_set];exact h.len,fun t ht2 => ?_⟩
  have htk:(G.succ i).take (k+1)=(G.succ i).take k++[to]:=by
    obtain ⟨h5,h6⟩:=List.getElem?_eq_some_iff.1 ht
    rw [List.take_succ_eq_append_getElem h5,h6]
  by_cases e2:t=to
  · subst e2
    refine ⟨l++[i],List.getElem?_set_self (by rw [h.len];exact ht2),by simp;omega,fun x => ?_⟩
    rw [List.count_append,h3 x,htk,List.count_append]
    by_cases a1:x < i
    · rw [if_pos a1,if_pos a1,List.count_cons_of_ne (by omega)];simp
    · rw [if_neg a1,if_neg a1]
      by_cases a2:x=i
      · subst a2;rw [if_pos rfl,if_pos rfl];simp
      · rw [if_neg a2,if_neg a2,List.count_cons_of_ne (fun h=>a2 h.symm)];simp
  · obtain ⟨l2,b1,b2,b3⟩:=h.row t ht2
    refine ⟨l2,by rw [List.getElem?_set_ne (Ne.symm e2)];exact b1,by omega,fun x => ?_⟩
    rw [b3 x,htk,List.count_append,List.count_cons_of_ne (Ne.symm e2)];simp
structure L2 (G:Gm) (i:Nat) (s:List Int×List Int×List (List Int)×List Int):Prop where
  lr:s.1.length=G.n
  lo:s.2.1.length=G.n
  bef:L1 G i 0 s.2.2.1
  r:∀ j,j < i→at_ s.1 j=if G.lost j=true then 0 else -1
  o:∀ j,j < i→at_ s.2.1 j=((G.succ j).length:Int)
  k:s.2.2.2=cst ((List.range i).filter G.lost)
theorem mkN_gen {b n:Nat} (h:n≤1500) (hb:b≤1000):mkN b (n:Int)=some n:=by
  unfold mkN
  have:n*b≤1500*1000:=Nat.mul_le_mul h hb
  rw [if_pos ⟨by omega,by omega,by push_cast;omega⟩,Int.toNat_natCast]
end
end Go.Proofs.YtjkljacdbljkpaaDoor
namespace Go.Proofs.YtjkljacdbljkpaaDoor
open Go.RowKit
set_option linter.unusedVariables false
set_option linter.unusedSimpArgs false
set_option maxRecDepth 100000
section
variable {c:ContractT} {party:Int} {p:PosT} {a:ArenaT}
theorem push_ret {x:Int} {l:List Int} (nx:Int) (h:l.length≤4000):d_136b x l nx=some (l++[x]):=by
  unfold d_136b
  rw [appI_of (by simp;omega)];rfl
theorem settle_ret {x:Nat} {v:Int} {r l:List Int} {n:Nat} (nx:Int) (hx:x < n) (hr:r.length=n) (h:l.length≤4000):d_134a (x:Int) v r n l nx=some (l++[(x:Int)],r.set x v):=by
  unfold d_134a
  rw [idxN_nat hx]
  simp only [Option.bind_some]
  rw [at_of (by omega),push_ret nx h];rfl
def Bnd (G:Gm) (r:Nat→Int) (m:Nat):Prop:=∀ i,i < G.n→r i≤m
theorem back_ret (hc:c.Ok) (A:ArOk c party p a) {r o:List Int} {P Q:List Nat} {u x:Nat} {cn:Nat→Nat} (nx:Int) (hr:r.length=(gm c a).n) (ho:o.length=(gm c a).n)
    (h:EInv (gm c a) (at_ r) (at_ o) P u Q cn) (hb:Bnd (gm c a) (at_ r) (P++u::Q).length) (hx:x < (gm c a).n) (hcn:cn x < ((gm c a).succ x).count u) :
    Ret (d_135a (x:Int) (u:Int) o (gm c a).n r (gm c a).n a (cst (P++u::Q)) nx) (fun z=>z.1.length=(gm c a).n∧z.2.1.length=(gm c a).n∧∃ Q',z.2.2=cst (P++u::Q')∧EInv (gm c a) (at_ z.2.1) (at_ z.1) P u Q' (upd cn x (cn x+1))∧Bnd (gm c a) (at_ z.2.1) (P++u::Q').length):=by
  have hn:(gm c a).n≤1500:=A.F.inv.len
  have hroom:=h.room hx hcn
  have hop:=h.core.op x hx
  have hsl:=A.slen hc x hx
  have hcp:(((gm c a).succ x).countP (outP P))≤((gm c a).succ x).length:=List.countP_le_length
  have hKn:(P++u::Q).length≤(gm c a).n:=by
    have:=nodup_le (L2:=List.range (gm c a).n) h.core.nd (fun y hy=>List.mem_range.2 (h.core.lt y hy))
    rwa [List.length_range] at this
  obtain ⟨hu,hun,hru,_,_⟩:=h.core.split
  have hgu:=h.core.ge u hun
  have hgx:=h.core.ge x hx
  have hbu:=hb u hun
  have hw1:IntKind.i64.wrap (at_ o x - 1)=at_ o x - 1:=wrap_i64 (by omega) (by omega)
  have hw2:IntKind.i64.wrap (at_ r u+1)=at_ r u+1:=wrap_i64 (by omega) (by omega)
  have hso:at_ (o.set x (at_ o x - 1))=upd (at_ o) x (at_ o x - 1):=at_set (by omega) _
  have hget:(o.set x (at_ o x - 1))[x]?=some (at_ o x - 1):=List.getElem?_set_self (by omega)
  have hown:(gm c a).own x=(a.positions[x]'(hx)).own:=by
    show (match a.positions[x]? with | some q=>q.own | none=>false)=_
    rw [List.getElem?_eq_getElem (show x < a.positions.length from hx)]
    rfl
  have hidx:idxI a.positions (x:Int)=some (a.positions[x]'hx):=idxI_at (List.getElem?_eq_getElem (show x < a.positions.length from hx))
  unfold d_135a
  refine Ret.bindE (idxN_nat hx) ?_
  refine Ret.bindE (at_of (by omega)) ?_
  rw [hw1]
  by_cases e1:at_ r x = -1
  · have e1b:(at_ r x == -1)=true:=by rw [e1];rfl
    by_cases e2:(gm c a).own x=false∨at_ o x - 1=0
    · refine Ret.bindE (v:=true) ?_ ?_
      · rw [idxN_nat hx]
        simp only [Option.bind_some]
        rw [at_of (by omega:x < r.length)]
        simp only [Option.bind_some,e1b,cond_true,hidx]
        rw [←hown]
        rcases e2 with e2 | e2
        · rw [e2];rfl
        · rw [hget]
          simp only [Option.bind_some,e2]
          cases (gm c a).own x<;>rfl
      · refine Ret.ite (fun _ => ?_) (fun h=>by cases h)
        refine Ret.bindE (idxN_nat hun) ?_
        refine Ret.bindE (at_of (by omega)) ?_
        rw [hw2]
        refine Ret.bindE (settle_ret nx hx hr (by rw [cst_len];omega)) ?_
        refine Ret.some ⟨by simp [ho],by simp [hr],Q++[x],?_,?_,?_⟩
        · rw [show P++u::(Q++[x])=(P++u::Q)++[x] by simp];exact (cst_app (P++u::Q) [x]).symm
        · rw [hso,at_set (by omega)]
          exact h.settle A.closed hx hcn e1 e2
        · intro i hi
          simp only
          rw [at_set (by omega)]
          have:=hb i hi
          unfold upd
          simp only [List.length_append,List.length_cons,List.length_nil] at this hbu ⊢
          split<;>omega
    · refine Ret.bindE (v:=false) ?_ ?_
      · rw [idxN_nat hx]
        simp only [Option.bind_some]
        rw [at_of (by omega:x < r.length)]
        simp only [Option.bind_some,e1b,cond_true,hidx]
        rw [←hown]
        have e3:(gm c a).own x=true:=by
          cases hq:(gm c a).own x with
          | true=>rfl
          | false=>exact absurd (.inl hq) e2
        rw [e3,hget]
        simp only [Option.bind_some,cond_true]
        rw [beq_eq_false_iff_ne.2 (fun h=>e2 (.inr h))]
      · refine Ret.ite (fun h=>by cases h) (fun _ => ?_)
        refine Ret.some ⟨by simp [ho],hr,Q,rfl,?_,hb⟩
        rw [hso]
        exact h.skip hx hcn (.inr ⟨by cases hq:(gm c a).own x with
          | true=>rfl
          | false=>exact absurd (.inl hq) e2,fun h=>e2 (.inr h)⟩)
  · have e1b:(at_ r x == -1)=false:=beq_eq_false_iff_ne.2 e1
    refine Ret.bindE (v:=false) ?_ ?_
    · rw [idxN_nat hx]
      simp only [Option.bind_some]
      rw [at_of (by omega:x < r.length)]
      simp only [Option.bind_some,e1b,cond_false]
    · refine Ret.ite (fun h=>by cases h) (fun _ => ?_)
      refine Ret.some ⟨by simp [ho],hr,Q,rfl,?_,hb⟩
      rw [hso]
      exact h.skip hx hcn (.inl e1)
theorem pop_ret {l:List Nat} {k:Nat} (hl:l.length≤4000) (hk:k≤l.length):d_137a (cst l) (k:Int)=some (match l[k]? with | some u=>((u:Int),true,(k:Int)+1) | none=>(0,false,(k:Int))):=by
  unfold d_137a
  rw [cst_len]
  by_cases e:k=l.length
  · rw [e,List.getElem?_eq_none (Nat.le_refl _)];simp
  · have h:k < l.length:=by omega
    have w1:IntKind.i64.wrap ((k:Int)+1)=(k:Int)+1:=wrap_i64 (by omega) (by omega)
    have w2:IntKind.i64.wrap ((k:Int)+1 - 1)=(k:Int):=by rw [show (k:Int)+1 - 1=(k:Int) by omega];exact wrap_i64 (by omega) (by omega)
    rw [beq_eq_false_iff_ne.2 (show (k:Int)≠(l.length:Int) by omega),w1,w2,List.getElem?_eq_getElem h]
    simp only [cond_false]
    rw [idxI_at (l:=cst l) (i:=k) (e:=(l[k]:Int)) (by unfold cst;rw [List.getElem?_map,List.getElem?_eq_getElem h];rfl)]
    rfl
end
end Go.Proofs.YtjkljacdbljkpaaDoor
namespace Go.Proofs.YtjkljacdbljkpaaDoor
open Go.RowKit
set_option linter.unusedVariables false
set_option linter.unusedSimpArgs false
set_option maxRecDepth 100000
section
variable {c:ContractT} {party:Int} {p:PosT} {a:ArenaT}
def tipB (G:Gm) (i:Nat):Bool:=G.own i&&(!(G.lost i)&&(G.succ i).isEmpty)
def r2 (G:Gm) (i j:Nat):Int:=if G.lost j=true then 0 else if tipB G j=true∧j < i then 1 else -1
def K2 (G:Gm) (i:Nat):List Nat:=(List.range G.n).filter G.lost++(List.range i).filter (tipB G)
structure L3 (G:Gm) (i:Nat) (s:List Int×List Int):Prop where
  lr:s.1.length=G.n
  r:∀ j,j < G.n→at_ s.1 j=r2 G i j
  k:s.2=cst (K2 G i)
theorem K2_len (G:Gm) (i:Nat):(K2 G i).length≤G.n+i:=by
  unfold K2
  rw [List.length_append]
  have h1:=List.length_filter_le G.lost (List.range G.n)
  have h2:=List.length_filter_le (tipB G) (List.range i)
  rw [List.length_range] at h1 h2
  omega
theorem begin_inv {G:Gm} {r o:Nat→Int} (hr:∀ j,j < G.n→r j=r2 G G.n j) (ho:∀ j,j < G.n→o j=((G.succ j).length:Int)):BInv G r o [] (K2 G G.n)∧Bnd G r (K2 G G.n).length:=by
  have tl:∀ j,tipB G j=true→G.own j=true∧G.lost j=false∧G.succ j=[]:=fun j h=>by
    simpa [tipB,Bool.and_eq_true,List.isEmpty_iff] using h
  have rl:∀ j,j < G.n→G.lost j=true→r j=0:=fun j hj h=>by rw [hr j hj];unfold r2;rw [if_pos h]
  have rt:∀ j,j < G.n→tipB G j=true→r j=1:=fun j hj h=>by
    rw [hr j hj];unfold r2;rw [if_neg (by rw [(tl j h).2.1];simp),if_pos ⟨h,hj⟩]
  have rn:∀ j,j < G.n→G.lost j=false→tipB G j=false→r j = -1:=fun j hj h h2=>by
    rw [hr j hj];unfold r2;rw [if_neg (by rw [h];simp),if_neg (by rw [h2];simp)]
  have three:∀ j,j < G.n→(G.lost j=true∧r j=0)∨(tipB G j=true∧G.lost j=false∧r j=1)∨(G.lost j=false∧tipB G j=false∧r j = -1):=fun j hj=>by
    cases h:G.lost j with
    | true=>exact .inl ⟨rfl,rl j hj h⟩
    | false=>cases h2:tipB G j with
      | true=>exact .inr (.inl ⟨rfl,rfl,rt j hj h2⟩)
      | false=>exact .inr (.inr ⟨rfl,rfl,rn j hj h h2⟩)
  have hm:∀ j,j∈K2 G G.n↔j < G.n∧(G.lost j=true∨tipB G j=true):=fun j=>by
    unfold K2
    rw [List.mem_append,List.mem_filter,List.mem_filter,List.mem_range]
    constructor
    · rintro (⟨h1,h2⟩ | ⟨h1,h2⟩)
      · exact ⟨h1,.inl h2⟩
      · exact ⟨h1,.inr h2⟩
    · rintro ⟨h1,h2 | h2⟩
      · exact .inl ⟨h1,h2⟩
      · exact .inr ⟨h1,h2⟩
  have hle:∀ x∈K2 G G.n,r x≤1∧0≤r x:=fun x hx=>by
    obtain ⟨h1,h2⟩:=(hm x).1 hx
    rcases three x h1 with ⟨_,h⟩ | ⟨_,_,h⟩ | ⟨h3,h4,h⟩
    · omega
    · omega
    · rw [h3,h4] at h2;simp at h2
  refine ⟨⟨⟨?_,fun x hx=>((hm x).1 hx).1,fun i hi => ?_,fun i hi => ?_,?_,fun i hi => ?_,fun i hi => ?_,fun i hi h1 h2 h3 => ?_,fun i hi h1 h2 h3 => ?_,fun i hi h1 h2 h3 => ?_,fun i hi h1 h2 h3=>⟨fun t ht h=>(by cases h),rfl⟩⟩,fun q Q' hq x hx => ?_⟩,fun i hi => ?_⟩
  · rw [List.nil_append]
    unfold K2
    refine List.nodup_append.2 ⟨List.nodup_range.sublist List.filter_sublist,List.nodup_range.sublist List.filter_sublist,fun x hx y hy e => ?_⟩
    subst e
    have h1:=(List.mem_filter.1 hx).2
    have h2:=(tl x (List.mem_filter.1 hy).2).2.1
    rw [h1] at h2;cases h2
  · rw [List.nil_append,hm i]
    rcases three i hi with ⟨h1,h⟩ | ⟨h1,_,h⟩ | ⟨h3,h4,h⟩
    · rw [h];simp [hi,h1]
    · rw [h];simp [hi,h1]
    · rw [h];simp [h3,h4]
  · rcases three i hi with ⟨_,h⟩ | ⟨_,_,h⟩ | ⟨_,_,h⟩<;>omega
  · rw [List.nil_append]
    unfold K2
    refine List.pairwise_append.2 ⟨?_,?_,fun x hx y hy => ?_⟩
    · refine List.pairwise_of_forall_mem_list fun x hx y hy => ?_
      have h1:=(List.mem_filter.1 hx);have h2:=(List.mem_filter.1 hy)
      rw [rl x (List.mem_range.1 h1.1) h1.2,rl y (List.mem_range.1 h2.1) h2.2];omega
    · refine List.pairwise_of_forall_mem_list fun x hx y hy => ?_
      have h1:=(List.mem_filter.1 hx);have h2:=(List.mem_filter.1 hy)
      rw [rt x (List.mem_range.1 h1.1) h1.2,rt y (List.mem_range.1 h2.1) h2.2];omega
    · have h1:=(List.mem_filter.1 hx);have h2:=(List.mem_filter.1 hy)
      rw [rl x (List.mem_range.1 h1.1) h1.2,rt y (List.mem_range.1 h2.1) h2.2];omega
  · rw [ho i hi]
    have:(G.succ i).countP (outP [])=(G.succ i).length:=List.countP_eq_length.2 fun x _=>by simp [outP]
    rw [this];simp
  · rcases three i hi with ⟨h1,h⟩ | ⟨_,h1,h⟩ | ⟨h1,_,h⟩<;>rw [h,h1]<;>simp
  · rcases three i hi with ⟨h4,h⟩ | ⟨h4,_,h⟩ | ⟨_,_,h⟩
    · rw [h2] at h4;cases h4
    · have h5:=(tl i h4).2.2
      rw [ho i hi,h5,h]
      exact ⟨rfl,fun t ht=>(by cases ht),.inl ⟨rfl,rfl⟩⟩
    · exact absurd h h3
  · rw [ho i hi]
    intro h5
    have h6:G.succ i=[]:=List.eq_nil_of_length_eq_zero (by omega)
    have h7:=rt i hi (by simp [tipB,h1,h2,h6])
    omega
  · rcases three i hi with ⟨h4,h⟩ | ⟨h4,_,h⟩ | ⟨_,_,h⟩
    · rw [h2] at h4;cases h4
    · have h5:=(tl i h4).1;rw [h1] at h5;cases h5
    · exact absurd h h3
  · rw [List.nil_append] at hx
    have h1:=(hle x hx).1
    have h2:=(hle q (by rw [hq];simp)).2
    omega
  · rcases three i hi with ⟨_,h⟩ | ⟨h1,_,h⟩ | ⟨_,_,h⟩
    · omega
    · have:0 < (K2 G G.n).length:=List.length_pos_of_mem ((hm i).2 ⟨hi,.inr h1⟩)
      omega
    · omega
structure QI (G:Gm) (bef:List (List Int)) (s:Int×Bool×List Int×List Int×List Int×Int):Prop where
  lr:s.2.2.1.length=G.n
  lo:s.2.2.2.1.length=G.n
  inv:∃ P Q,BInv G (at_ s.2.2.1) (at_ s.2.2.2.1) P Q∧Bnd G (at_ s.2.2.1) (P++Q).length∧s.2.2.2.2.1=cst (P++Q)∧((s.2.1=false∧Q=[]∧s.2.2.2.2.2=(P.length:Int))∨(s.2.1=true∧∃ u Q',Q=u::Q'∧s.1=(u:Int)∧s.2.2.2.2.2=(P.length:Int)+1))
theorem count_take {l:List Nat} {k:Nat} (hk:k < l.length) (x:Nat):(l.take (k+1)).count x=upd (fun y=>(l.take k).count y) l[k] ((l.take k).count l[k]+1) x:=by
  rw [List.take_succ_eq_append_getElem hk,List.count_append]
  unfold upd
  by_cases e:x=l[k]
  · rw [if_pos e,e];simp
  · rw [if_neg e,List.count_cons_of_ne (fun h=>e h.symm)];simp
theorem upd_count {l:List Nat} {k:Nat} (hk:k < l.length):(fun y=>(l.take (k+1)).count y)=upd (fun y=>(l.take k).count y) l[k] ((l.take k).count l[k]+1):=funext fun x=>count_take hk x
theorem pop_qi {G:Gm} {bef:List (List Int)} {P Q:List Nat} {r o:List Int} (hn:G.n≤1500) (hr:r.length=G.n) (ho:o.length=G.n) (h:BInv G (at_ r) (at_ o) P Q) (hb:Bnd G (at_ r) (P++Q).length) :
    ∃ z:Int×Bool×Int,d_137a (cst (P++Q)) (P.length:Int)=some z∧QI G bef (z.1,z.2.1,r,o,cst (P++Q),z.2.2)∧((z.2.1=false∧z.2.2=(P.length:Int))∨(z.2.1=true∧z.2.2=(P.length:Int)+1))∧P.length≤G.n:=by
  have hK:(P++Q).length≤G.n:=by
    have:=nodup_le (L2:=List.range G.n) h.core.nd (fun y hy=>List.mem_range.2 (h.core.lt y hy))
    rwa [List.length_range] at this
  refine ⟨_,pop_ret (by omega) (by simp),?_⟩
  cases Q with
  | nil=>
    rw [List.append_nil,List.getElem?_eq_none (Nat.le_refl _)]
    exact ⟨⟨hr,ho,P,[],h,hb,by rw [List.append_nil],.inl ⟨rfl,rfl,rfl⟩⟩,.inl ⟨rfl,rfl⟩,by simpa using hK⟩
  | cons u Q'=>
    rw [List.getElem?_append_right (Nat.le_refl _),Nat.sub_self]
    exact ⟨⟨hr,ho,P,u::Q',h,hb,rfl,.inr ⟨rfl,u,Q',rfl,rfl,rfl⟩⟩,.inr ⟨rfl,rfl⟩,by rw [List.length_append] at hK;omega⟩
theorem ranks_ret (hc:c.Ok) (A:ArOk c party p a):Ret (d_Ranks c a) (fun r=>r.length=a.positions.length∧RankOk (gm c a) (at_ r)∧∀ i,i < a.positions.length→at_ r i≤1500):=by
  have hn:a.positions.length≤1500:=A.F.inv.len
  have hgn:(gm c a).n=a.positions.length:=rfl
  unfold d_Ranks
  refine Ret.bindE (s_wellFormed hc A) ?_
  refine Ret.ite (fun _ => ?_) (fun h=>by cases h)
  refine Ret.bindE (mkN_gen hn (by omega)) ?_
  refine Ret.bindE (mkN_gen hn (by omega)) ?_
  refine Ret.bindE (mkN_gen hn (by omega)) ?_
  refine Ret.bind (P:=fun o:(List Int×List Int×List (List Int)×List Int) ⊕ Unit=>∃ s,o=.inl s∧L2 (gm c a) a.positions.length s) (Ret.forL (L2 (gm c a)) (by omega) ?_ (fun i s hi hs => ?_) (fun s h=>⟨s,rfl,h⟩)) ?_
  · refine ⟨by simp [hgn],by simp [hgn],⟨by simp [hgn],fun t ht=>⟨[],?_,by simp,fun x => ?_⟩⟩,fun j hj=>by omega,fun j hj=>by omega,rfl⟩
    · rw [List.getElem?_replicate,if_pos (by rw [←hgn];exact ht)];rfl
    · simp
  · obtain ⟨R,O,B,K⟩:=s
    obtain ⟨hlr,hlo,hbef,hr,ho,hk⟩:=hs
    simp only at hlr hlo hbef hr ho hk ⊢
    obtain ⟨T,hT,hM⟩:=A.mv hi
    have hTl:=A.len hc hi hT
    have hsucc:=A.succ hi hT
    have hlostE:(gm c a).lost i=lostB c a.positions[i].state a.party:=by
      show (match a.positions[i]? with | some q=>lostB c q.state a.party | none=>false)=_
      rw [List.getElem?_eq_getElem hi]
    refine Ret.bind (P:=fun v=>L2 (gm c a) (i+1) v) ?_ (fun v hv=>Ret.some hv)
    refine Ret.bindE (idxI_at (List.getElem?_eq_getElem hi)) ?_
    refine Ret.bindE (idxI_at hT) ?_
    refine Ret.bindE (idxN_nat hi) ?_
    refine Ret.bindE (at_of (by omega)) ?_
    refine Ret.bindE (idxN_nat hi) ?_
    refine Ret.bindE (at_of (by omega)) ?_
    refine Ret.bindE (idxI_at hT) ?_
    refine Ret.bind (P:=fun o:List (List Int) ⊕ Unit=>∃ b,o=.inl b∧L1 (gm c a) i T.length b) (Ret.forL (fun k b=>L1 (gm c a) i k b) (by omega) hbef (fun k b hk2 hb => ?_) (fun b h=>⟨b,rfl,h⟩)) ?_
    · have hto:=A.to hi hT (List.getElem_mem hk2)
      refine Ret.bindE (idxI_at (List.getElem?_eq_getElem hk2)) ?_
      have h1:(gm c a).succ i=T.map fun m=>m.to.toNat:=hsucc
      have h2:=hb.step (G:=gm c a) hn hi (by omega) (to:=T[k].to.toNat) (by rw [h1,List.getElem?_map,List.getElem?_eq_getElem hk2];rfl) (by rw [hgn];omega)
      rw [Int.toNat_of_nonneg hto.1] at h2
      exact Ret.bind h2 (fun v hv=>Ret.some hv)
    · rintro _ ⟨b,rfl,hb⟩
      simp only [Sum.elim_inl]
      have hb':=hb.next (by rw [hsucc,List.length_map]) hTl
      have hR1:at_ (R.set i (-1))=upd (at_ R) i (-1):=at_set (by omega) _
      have hO1:at_ (O.set i (T.length:Int))=upd (at_ O) i (T.length:Int):=at_set (by omega) _
      have hoo:∀ j,j < i+1→upd (at_ O) i (T.length:Int) j=(((gm c a).succ j).length:Int):=fun j hj=>by
        unfold upd
        by_cases e:j=i
        · rw [if_pos e,e,hsucc,List.length_map]
        · rw [if_neg e];exact ho j (by omega)
      have hrange:(List.range (i+1)).filter (gm c a).lost=(List.range i).filter (gm c a).lost++(bif (gm c a).lost i then [i] else []):=by
        rw [List.range_succ,List.filter_append]
        cases h:(gm c a).lost i<;>simp [h]
      refine Ret.bindE (s_lost hc (A.F.inv.vs _ (List.getElem_mem hi)) a.party) ?_
      refine Ret.ite (fun hl => ?_) (fun hl => ?_)
      · rw [←hlostE] at hl
        refine Ret.bindE (idxN_nat hi) ?_
        refine Ret.bindE (List.getElem?_set_self (by omega)) ?_
        have hK:K.length≤1500:=by
          rw [hk,cst_len]
          have:=List.length_filter_le (gm c a).lost (List.range i)
          rw [List.length_range] at this;omega
        refine Ret.bindE (push_ret 0 (by omega)) ?_
        refine Ret.some ⟨by simp [hlr],by simp [hlo],hb',fun j hj => ?_,fun j hj => ?_,?_⟩
        · simp only
          rw [List.set_set,at_set (by omega)]
          unfold upd
          by_cases e:j=i
          · rw [if_pos e,e,if_pos hl]
          · rw [if_neg e];exact hr j (by omega)
        · simp only;rw [hO1];exact hoo j hj
        · simp only;rw [hk,hrange,hl,cond_true,cst_app];rfl
      · rw [←hlostE] at hl
        refine Ret.some ⟨by simp [hlr],by simp [hlo],hb',fun j hj => ?_,fun j hj => ?_,?_⟩
        · simp only
          rw [hR1]
          unfold upd
          by_cases e:j=i
          · rw [if_pos e,e,if_neg (by rw [hl];simp)]
          · rw [if_neg e];exact hr j (by omega)
        · simp only;rw [hO1];exact hoo j hj
        · simp only;rw [hk,hrange,hl,cond_false,List.append_nil]
  · rintro _ ⟨⟨R,O,B,K⟩,rfl,hlr,hlo,hbef,hr,ho,hk⟩
    simp only [Sum.elim_inl] at hlr hlo hbef hr ho hk ⊢
    refine Ret.bind (P:=fun o:(List Int×List Int) ⊕ Unit=>∃ s,o=.inl s∧L3 (gm c a) a.positions.length s) (Ret.forL (L3 (gm c a)) (by omega) ?_ (fun i s hi hs => ?_) (fun s h=>⟨s,rfl,h⟩)) ?_
    · refine ⟨hlr,fun j hj => ?_,?_⟩
      · rw [hr j hj];unfold r2
        split
        · rfl
        · rw [if_neg (by omega)]
      · simp only;rw [hk];unfold K2;rw [List.range_zero,List.filter_nil,List.append_nil];rfl
    · obtain ⟨R1,K1⟩:=s
      obtain ⟨h1,h2,h3⟩:=hs
      simp only at h1 h2 h3 ⊢
      have hown:(gm c a).own i=a.positions[i].own:=by
        show (match a.positions[i]? with | some q=>q.own | none=>false)=_
        rw [List.getElem?_eq_getElem hi]
      have hsame:tipB (gm c a) i=false→L3 (gm c a) (i+1) (R1,K1):=fun ht=>by
        refine ⟨h1,fun j hj => ?_,?_⟩
        · simp only;rw [h2 j hj];unfold r2
          split
          · rfl
          · by_cases e:j=i
            · subst e;rw [if_neg (by rw [ht];simp),if_neg (by rw [ht];simp)]
            · by_cases e2:tipB (gm c a) j=true∧j < i
              · rw [if_pos e2,if_pos ⟨e2.1,by omega⟩]
              · rw [if_neg e2,if_neg (fun h=>e2 ⟨h.1,by have:=h.2;omega⟩)]
        · simp only;rw [h3];unfold K2;rw [List.range_succ,List.filter_append];simp [ht]
      refine Ret.bind (P:=fun v=>L3 (gm c a) (i+1) v) ?_ (fun v hv=>Ret.some hv)
      refine Ret.bindE (idxI_at (List.getElem?_eq_getElem hi)) ?_
      have hv3:(bif a.positions[i].own then (Option.bind (idxN a.positions.length (i:Int)) fun k7=>(Option.bind (O[k7]?) fun e9=>(bif (e9 == 0) then (Option.bind (idxN a.positions.length (i:Int)) fun k8=>(Option.bind (R1[k8]?) fun e10=>some (e10 == (-1)))) else some false))) else some false)=some (tipB (gm c a) i):=by
        rw [idxN_nat hi]
        simp only [Option.bind_some]
        rw [at_of (by omega:i < O.length),at_of (by omega:i < R1.length)]
        simp only [Option.bind_some]
        rw [ho i hi,h2 i hi,←hown]
        unfold tipB r2
        cases e1:(gm c a).own i with
        | false=>rfl
        | true=>
          cases e2:(gm c a).succ i with
          | cons x l=>
            rw [beq_eq_false_iff_ne.2 (by simp;omega)];simp
          | nil=>
            cases e3:(gm c a).lost i with
            | true=>rfl
            | false=>simp
      refine Ret.bindE hv3 ?_
      refine Ret.ite (fun ht => ?_) (fun ht=>Ret.some (hsame ht))
      have hK1:K1.length≤4000:=by
        rw [h3,cst_len]
        have:=K2_len (gm c a) i
        omega
      refine Ret.bindE (settle_ret 0 hi h1 hK1) ?_
      refine Ret.some ⟨by simp [h1],fun j hj => ?_,?_⟩
      · simp only
        rw [at_set (by omega)]
        unfold upd
        by_cases e:j=i
        · subst e
          have h4:(gm c a).lost j=false:=by
            simp only [tipB,Bool.and_eq_true,Bool.not_eq_true'] at ht;exact ht.2.1
          rw [if_pos rfl];unfold r2;rw [if_neg (by rw [h4];simp),if_pos ⟨ht,by omega⟩]
        · rw [if_neg e,h2 j hj];unfold r2
          split
          · rfl
          · by_cases e2:tipB (gm c a) j=true∧j < i
            · rw [if_pos e2,if_pos ⟨e2.1,by omega⟩]
            · rw [if_neg e2,if_neg (fun h=>e2 ⟨h.1,by have:=h.2;omega⟩)]
      · simp only;rw [h3];unfold K2;rw [List.range_succ,List.filter_append,←List.append_assoc,cst_app];simp [ht,cst]
    · rintro _ ⟨⟨R1,K1⟩,rfl,h1,h2,h3⟩
      simp only [Sum.elim_inl] at h1 h2 h3 ⊢
      obtain ⟨hB,hbd⟩:=begin_inv (G:=gm c a) (r:=at_ R1) (o:=at_ O) h2 ho
      have hQ0:=pop_qi (bef:=B) (P:=[]) hn h1 hlo hB (by rw [List.nil_append];exact hbd)
      refine Ret.bind (P:=fun v:List Int=>v.length=(gm c a).n∧RankOk (gm c a) (at_ v)∧∀ i,i < (gm c a).n→at_ v i≤1500) ?_ ?_
      · obtain ⟨z,hz,hq,_⟩:=hQ0
        have hK1:K1=cst ([]++K2 (gm c a) (gm c a).n):=by rw [h3,List.nil_append];rfl
        rw [hK1]
        refine Ret.bindE hz ?_
        refine Ret.bind (P:=fun y:List Int=>y.length=(gm c a).n∧RankOk (gm c a) (at_ y)∧∀ i,i < (gm c a).n→at_ y i≤1500) (Ret.iter (QI (gm c a) B) (fun s=>2*((gm c a).n+2 - s.2.2.2.2.2.toNat)+(bif s.2.1 then 1 else 0)) hq (fun s hs => ?_)) (fun y hy=>Ret.some hy)
        obtain ⟨to,ok,R2,O2,K3,nx⟩:=s
        obtain ⟨g1,g2,P,Q,g3,g4,g5,g6⟩:=hs
        simp only at g1 g2 g3 g4 g5 g6 ⊢
        have hKn:(P++Q).length≤(gm c a).n:=by
          have:=nodup_le (L2:=List.range (gm c a).n) g3.core.nd (fun y hy=>List.mem_range.2 (g3.core.lt y hy))
          rwa [List.length_range] at this
        rcases g6 with ⟨rfl,rfl,g7⟩ | ⟨rfl,u,Q',rfl,rfl,rfl⟩
        · refine Ret.ite (fun h=>by cases h) (fun _ => ?_)
          exact Ret.some ⟨g1,(g3.done A.closed).ok A.closed,fun i hi=>by have:=g4 i hi;omega⟩
        · refine Ret.ite (fun _ => ?_) (fun h=>by cases h)
          have E:=g3.enter
          obtain ⟨_,hun,_⟩:=E.core.split
          obtain ⟨l,l1,l2,l3⟩:=hbef.row u hun
          have hcount:∀ x,x < (gm c a).n→l.count x=((gm c a).succ x).count u:=fun x hx=>by rw [l3 x,if_pos (by rw [←hgn];exact hx)]
          have hlmem:∀ x∈l,x < (gm c a).n:=fun x hx=>by
            have h5:0 < l.count x:=List.count_pos_iff.2 hx
            rw [l3 x] at h5
            split at h5
            · rename_i h6;exact h6
            · split at h5
              · simp at h5
              · omega
          refine Ret.bindE (idxN_nat hun) ?_
          refine Ret.bindE l1 ?_
          refine Ret.bind (P:=fun o:(List Int×List Int×List Int) ⊕ Unit=>∃ s5,o=.inl s5∧s5.1.length=(gm c a).n∧s5.2.1.length=(gm c a).n∧∃ Q2,s5.2.2=cst (P++u::Q2)∧EInv (gm c a) (at_ s5.1) (at_ s5.2.1) P u Q2 (fun y=>l.count y)∧Bnd (gm c a) (at_ s5.1) (P++u::Q2).length) ?_ ?_
          · rw [cst_len]
            refine Ret.forL (fun k s5=>s5.1.length=(gm c a).n∧s5.2.1.length=(gm c a).n∧∃ Q2,s5.2.2=cst (P++u::Q2)∧EInv (gm c a) (at_ s5.1) (at_ s5.2.1) P u Q2 (fun y=>(l.take k).count y)∧Bnd (gm c a) (at_ s5.1) (P++u::Q2).length) (by omega) ⟨g1,g2,Q',g5,by simpa using E,g4⟩ (fun k s5 hk hs5 => ?_) (fun s5 h=>⟨s5,rfl,by rw [List.take_length] at h;exact h⟩)
            obtain ⟨R4,O4,K4⟩:=s5
            obtain ⟨i1,i2,Q2,i3,i4,i5⟩:=hs5
            simp only at i1 i2 i3 i4 i5 ⊢
            have hx:=hlmem _ (List.getElem_mem hk)
            refine Ret.bindE (idxI_at (e:=(l[k]:Int)) (by unfold cst;rw [List.getElem?_map,List.getElem?_eq_getElem hk];rfl)) ?_
            rw [i3]
            refine Ret.bind (back_ret hc A _ i1 i2 i4 i5 hx ?_) (fun z hz => ?_)
            · have h6:=count_take hk l[k]
              unfold upd at h6
              rw [if_pos rfl] at h6
              have h7:(l.take (k+1)).count l[k]≤l.count l[k]:=(List.take_sublist _ _).count_le _
              rw [hcount _ hx] at h7
              show (l.take k).count l[k] < _
              omega
            · obtain ⟨j1,j2,Q3,j3,j4,j5⟩:=hz
              refine Ret.some ⟨j2,j1,Q3,j3,?_,j5⟩
              simp only
              rw [upd_count hk];exact j4
          · rintro _ ⟨⟨R4,O4,K4⟩,rfl,i1,i2,Q2,i3,i4,i5⟩
            simp only [Sum.elim_inl] at i1 i2 i3 i4 i5 ⊢
            have hB2:=i4.leave hcount
            have hPQ:P++[u]++Q2=P++u::Q2:=by simp
            obtain ⟨z2,hz2,hq2,hz3,hz4⟩:=pop_qi (bef:=B) (P:=P++[u]) (Q:=Q2) hn i1 i2 hB2 (by rw [hPQ];exact i5)
            rw [hPQ] at hz2 hq2
            rw [i3]
            have hnx:((P++[u]).length:Int)=(P.length:Int)+1:=by simp
            rw [hnx] at hz2
            refine Ret.bindE hz2 ?_
            refine Ret.some ⟨hq2,?_⟩
            simp only [cond_true]
            rw [List.length_append] at hz3 hz4
            simp only [List.length_cons,List.length_nil] at hz3 hz4
            rcases hz3 with ⟨e1,e2⟩ | ⟨e1,e2⟩
            · rw [e1,e2,cond_false];omega
            · rw [e1,e2,cond_true];omega
      · intro v hv
        refine Ret.bindE (eqN_of (hgn.symm.trans hv.1.symm)) ?_
        exact Ret.some hv
end
end Go.Proofs.YtjkljacdbljkpaaDoor
namespace Go.Proofs.YtjkljacdbljkpaaDoor
open Go.RowKit
set_option linter.unusedVariables false
set_option linter.unusedSimpArgs false
set_option maxRecDepth 100000
theorem StartP.get {c:ContractT} {hs:List Int} {ms r:List MarkT} (h:StartP c hs ms r) {i:Nat} {m:MarkT} (hi:i < c.clauses.length) (hm:ms[i]?=some m) (h0:m.status≠0):r[i]?=some m:=by
  have hl:i < r.length:=by rw [h.ok.1];exact hi
  rw [List.getElem?_eq_getElem hl]
  rcases h.rel i m r[i] hm (List.getElem?_eq_getElem hl) with e | ⟨e,_⟩
  · rw [e]
  · exact absurd e h0
theorem target_pass (c:ContractT) (q:PosT):target c q (-2) = {state:=q.state,own:=false}:=if_pos rfl
theorem target_step (c:ContractT) (q:PosT) {m:Int} (h : -1≤m):target c q m = {state:=stepS c q.state m,own:=true}:=if_neg (by omega)
theorem From_err {c:ContractT} {party:Int} {p:PosT} {r:ArenaT×Int} (h:d_From c party p=some r) (hr:r.2≠0):r.1=arena0:=by
  unfold d_From at h
  obtain ⟨b,_,h⟩:=obind h
  cases b with
  | false=>cases h;rfl
  | true=>
    rw [cond_true] at h
    obtain ⟨_,_,h⟩:=obind h
    obtain ⟨_,_,h⟩:=obind h
    obtain ⟨o,_,h⟩:=obind h
    cases o with
    | inl s=>cases h;exact absurd rfl hr
    | inr u=>cases h;rfl
theorem Build_err {c:ContractT} {party:Int} {r:ArenaT×Int} (h:d_Build c party=some r) (hr:r.2≠0):r.1=arena0:=by
  unfold d_Build at h
  obtain ⟨s,_,h⟩:=obind h
  cases hs:(s.2 == 0) with
  | true=>
    rw [hs,cond_true] at h
    obtain ⟨f,hf,h⟩:=obind h
    cases h
    exact From_err hf hr
  | false=>rw [hs] at h;cases h;rfl
def BuildR (c:ContractT) (party:Int) (r:ArenaT×Int):Prop:=(r.2≠0∧r.1=arena0)∨(r.2=0∧∃ s0,d_Start c=some (s0,0)∧VS c s0∧ArOk c party {state:=s0,own:=true} r.1)
theorem build_r {c:ContractT} (hc:c.Ok) (party:Int):Ret (d_Build c party) (BuildR c party):=by
  obtain ⟨r,hr,h⟩:=build_ret hc party
  refine ⟨r,hr,?_⟩
  rcases h with h | ⟨h,s0,h1,h2,h3,h4,h5,h6⟩
  · exact .inl ⟨h,Build_err hr h⟩
  · exact .inr ⟨h,s0,h1,h2,h3,h4,h5,h6⟩
end Go.Proofs.YtjkljacdbljkpaaDoor
namespace Go.Proofs.YtjkljacdbljkpaaDoor
open Go.RowKit
set_option linter.unusedVariables false
set_option linter.unusedSimpArgs false
set_option maxRecDepth 100000
section
variable {c:ContractT} {party:Int} {p:PosT} {a:ArenaT}
theorem ArOk.lost (A:ArOk c party p a) {i:Nat} (hi:i < a.positions.length):(gm c a).lost i=lostB c a.positions[i].state party:=by
  show (match a.positions[i]? with | some q=>lostB c q.state a.party | none=>false)=_
  rw [List.getElem?_eq_getElem hi,A.pa]
theorem ArOk.own (A:ArOk c party p a) {i:Nat} (hi:i < a.positions.length):(gm c a).own i=a.positions[i].own:=by
  show (match a.positions[i]? with | some q=>q.own | none=>false)=_
  rw [List.getElem?_eq_getElem hi]
theorem ArOk.pos (A:ArOk c party p a):0 < a.positions.length:=(List.getElem?_eq_some_iff.1 A.F.first).1
theorem ArOk.tgt (A:ArOk c party p a) {i:Nat} (hi:i < a.positions.length) {T:List MoveT} (hT:a.moves[i]?=some T) {m:MoveT} (hm:m∈T) :
    m.step∈movesL c party a.positions[i]∧0≤m.to∧∃ h:m.to.toNat < a.positions.length,a.positions[m.to.toNat]=target c a.positions[i] m.step:=by
  obtain ⟨T',h1,h2,h3⟩:=A.mv hi
  rw [hT] at h1;cases h1
  obtain ⟨h4,h5⟩:=h3 m hm
  obtain ⟨h6,h7⟩:=List.getElem?_eq_some_iff.1 h5
  exact ⟨by rw [←h2];exact List.mem_map.2 ⟨m,hm,rfl⟩,h4,h6,h7⟩
theorem ArOk.ne (A:ArOk c party p a) {i:Nat} (hi:i < a.positions.length) {T:List MoveT} (hT:a.moves[i]?=some T) (ho:a.positions[i].own=true):T≠[]:=by
  obtain ⟨T',h1,h2,_⟩:=A.mv hi
  rw [hT] at h1;cases h1
  intro e
  subst e
  have:(-2:Int)∈movesL c party a.positions[i]:=mem_moves.2 (.inl ⟨ho,rfl⟩)
  rw [←h2] at this;cases this
end
end Go.Proofs.YtjkljacdbljkpaaDoor
namespace Go.Proofs.YtjkljacdbljkpaaDoor
open Go.RowKit
set_option linter.unusedVariables false
set_option linter.unusedSimpArgs false
set_option maxRecDepth 100000
def AttrP (c:ContractT) (party:Int):Nat→PosT→Prop
  | 0,q=>lostB c q.state party=true
  | k+1,q=>lostB c q.state party=true∨(q.own=true∧∀ m∈movesL c party q,AttrP c party k (target c q m))∨(q.own=false∧∃ m∈movesL c party q,AttrP c party k (target c q m))
def SafeP (c:ContractT) (party:Int) (q:PosT):Prop:=∀ k,¬ AttrP c party k q
theorem AttrP.zero {c:ContractT} {party:Int} {q:PosT} (h:lostB c q.state party=true):∀ k,AttrP c party k q
  | 0=>h
  | k+1=>.inl h
theorem AttrP.succ1 {c:ContractT} {party:Int}:∀ {k:Nat} {q:PosT},AttrP c party k q→AttrP c party (k+1) q
  | 0,q,h=>.inl h
  | k+1,q,h=>by
    rcases h with h | ⟨h1,h2⟩ | ⟨h1,t,h2,h3⟩
    · exact .inl h
    · exact .inr (.inl ⟨h1,fun t ht=>(h2 t ht).succ1⟩)
    · exact .inr (.inr ⟨h1,t,h2,h3.succ1⟩)
theorem AttrP.mono {c:ContractT} {party:Int} {k k':Nat} {q:PosT} (hk:k≤k') (h:AttrP c party k q):AttrP c party k' q:=by
  induction hk with
  | refl=>exact h
  | step _ ih=>exact ih.succ1
section
variable {c:ContractT} {party:Int} {p:PosT} {a:ArenaT}
theorem attr_p (A:ArOk c party p a):∀ (k i:Nat) (hi:i < a.positions.length),Attr (gm c a) k i↔AttrP c party k a.positions[i]
  | 0,i,hi=>by show (gm c a).lost i=true↔_;rw [A.lost hi];rfl
  | k+1,i,hi=>by
    obtain ⟨T,hT,hst,_⟩:=A.mv hi
    have hs:=A.succ hi hT
    have go:∀ m∈T,(Attr (gm c a) k m.to.toNat↔AttrP c party k (target c a.positions[i] m.step)):=fun m hm=>by
      obtain ⟨_,_,t3,t4⟩:=A.tgt hi hT hm
      rw [attr_p A k _ t3,t4]
    have hall:(∀ t∈(gm c a).succ i,Attr (gm c a) k t)↔∀ m∈movesL c party a.positions[i],AttrP c party k (target c a.positions[i] m):=by
      rw [hs,←hst]
      constructor
      · intro h x hx
        obtain ⟨m,hm,rfl⟩:=List.mem_map.1 hx
        exact (go m hm).1 (h _ (List.mem_map.2 ⟨m,hm,rfl⟩))
      · intro h x hx
        obtain ⟨m,hm,rfl⟩:=List.mem_map.1 hx
        exact (go m hm).2 (h _ (List.mem_map.2 ⟨m,hm,rfl⟩))
    have hex:(∃ t∈(gm c a).succ i,Attr (gm c a) k t)↔∃ m∈movesL c party a.positions[i],AttrP c party k (target c a.positions[i] m):=by
      rw [hs,←hst]
      constructor
      · rintro ⟨x,hx,h⟩
        obtain ⟨m,hm,rfl⟩:=List.mem_map.1 hx
        exact ⟨_,List.mem_map.2 ⟨m,hm,rfl⟩,(go m hm).1 h⟩
      · rintro ⟨x,hx,h⟩
        obtain ⟨m,hm,rfl⟩:=List.mem_map.1 hx
        exact ⟨_,List.mem_map.2 ⟨m,hm,rfl⟩,(go m hm).2 h⟩
    show ((gm c a).lost i=true∨((gm c a).own i=true∧∀ t∈(gm c a).succ i,Attr (gm c a) k t)∨((gm c a).own i=false∧∃ t∈(gm c a).succ i,Attr (gm c a) k t))↔_
    rw [A.lost hi,A.own hi,hall,hex]
    rfl
def RankP (c:ContractT) (party:Int) (q:PosT) (x:Int):Prop := -1≤x∧∀ k:Nat,(x ≠ -1∧x≤k)↔AttrP c party k q
theorem rank_p (A:ArOk c party p a) {r:Nat→Int} (hr:RankOk (gm c a) r) {i:Nat} (hi:i < a.positions.length):RankP c party a.positions[i] (r i):=
  ⟨(hr i hi).1,fun k=>((hr i hi).2 k).trans (attr_p A k i hi)⟩
theorem RankP.safe {q:PosT} {x:Int} (h:RankP c party q x):x = -1↔SafeP c party q:=by
  constructor
  · intro e k hk
    exact ((h.2 k).2 hk).1 e
  · intro hs
    have:=h.1
    by_cases e:x = -1
    · exact e
    · exact absurd ((h.2 x.toNat).1 ⟨e,by omega⟩) (hs _)
end
end Go.Proofs.YtjkljacdbljkpaaDoor
namespace Go.Proofs.YtjkljacdbljkpaaDoor
open Go.RowKit
set_option linter.unusedVariables false
set_option linter.unusedSimpArgs false
set_option maxRecDepth 100000
open Classical in
noncomputable def safeB (c:ContractT) (party:Int) (q:PosT):Bool:=decide (SafeP c party q)
theorem safeB_iff {c:ContractT} {party:Int} {q:PosT}:safeB c party q=true↔SafeP c party q:=by unfold safeB;simp
theorem safe_lost {c:ContractT} {party:Int} {q:PosT} (h:SafeP c party q):lostB c q.state party=false:=by
  cases e:lostB c q.state party with
  | false=>rfl
  | true=>exact absurd e (h 0)
theorem attr_bound {c:ContractT} {party:Int} (l:List Int) (f:Int→PosT) (h:∀ m∈l,¬ SafeP c party (f m)):∃ k,∀ m∈l,AttrP c party k (f m):=by
  induction l with
  | nil=>exact ⟨0,fun m hm=>by cases hm⟩
  | cons x l ih=>
    obtain ⟨k,hk⟩:=ih fun m hm=>h m (List.mem_cons_of_mem _ hm)
    have hx:=h x List.mem_cons_self
    obtain ⟨k2,hk2⟩:∃ k,AttrP c party k (f x):=Classical.not_forall_not.1 hx
    refine ⟨k+k2,fun m hm => ?_⟩
    rcases List.mem_cons.1 hm with rfl | hm
    · exact hk2.mono (by omega)
    · exact (hk m hm).mono (by omega)
theorem safe_own {c:ContractT} {party:Int} {q:PosT} (ho:q.own=true):SafeP c party q↔lostB c q.state party=false∧∃ m∈movesL c party q,SafeP c party (target c q m):=by
  constructor
  · intro h
    refine ⟨safe_lost h,?_⟩
    apply Classical.byContradiction
    intro hn
    obtain ⟨k,hk⟩:=attr_bound (movesL c party q) (target c q) (fun m hm hs=>hn ⟨m,hm,hs⟩)
    exact h (k+1) (.inr (.inl ⟨ho,hk⟩))
  · rintro ⟨h1,m,hm,h2⟩ k hk
    cases k with
    | zero=>
      have hk:lostB c q.state party=true:=hk
      rw [h1] at hk;cases hk
    | succ k=>
      rcases hk with hk | ⟨_,hk⟩ | ⟨hk,_⟩
      · rw [h1] at hk;cases hk
      · exact h2 k (hk m hm)
      · rw [ho] at hk;cases hk
section
variable {c:ContractT} {party:Int} {p:PosT} {a:ArenaT}
theorem safe_ret (hc:c.Ok) (A:ArOk c party p a):d_Safe c a=some (a.positions.map (safeB c party)):=by
  refine Ret.eq ?_
  have hn:a.positions.length≤1500:=A.F.inv.len
  unfold d_Safe
  refine Ret.bind (ranks_ret hc A) ?_
  rintro r ⟨hl,hr,_⟩
  have hmk:mkN 1 (r.length:Int)=some a.positions.length:=by rw [hl];exact mkN_gen hn (by omega)
  refine Ret.bindE hmk ?_
  refine Ret.bind (P:=fun o:List Bool ⊕ Unit=>o=.inl (a.positions.map (safeB c party))) (Ret.forL (fun i s=>s.length=a.positions.length∧∀ j,j < i→s[j]?=(a.positions.map (safeB c party))[j]?) (by omega) ⟨by simp,fun j hj=>by omega⟩ (fun i s hi hs => ?_) (fun s hs => ?_)) ?_
  · have hi':i < a.positions.length:=by omega
    refine Ret.bindE (idxI_at (at_of hi)) ?_
    refine Ret.bindE (idxN_nat hi') ?_
    refine Ret.bindE (List.getElem?_eq_getElem (show i < s.length by omega)) ?_
    refine Ret.some ⟨by simp [hs.1],fun j hj => ?_⟩
    by_cases e:j=i
    · subst e
      rw [List.getElem?_set_self (by omega),List.getElem?_map,List.getElem?_eq_getElem hi']
      simp only [Option.map_some,Option.some.injEq]
      have h1:=(rank_p A hr hi').safe
      cases h2:safeB c party a.positions[j] with
      | true=>rw [h1.2 (safeB_iff.1 h2)];rfl
      | false=>
        refine beq_eq_false_iff_ne.2 fun e => ?_
        rw [safeB_iff.2 (h1.1 e)] at h2;cases h2
    · rw [List.getElem?_set_ne (Ne.symm e)];exact hs.2 j (by omega)
  · have e:s=a.positions.map (safeB c party):=List.ext_getElem? fun j=>by
      by_cases h:j < r.length
      · exact hs.2 j h
      · rw [List.getElem?_eq_none (by omega),List.getElem?_eq_none (by simp;omega)]
    rw [e]
  · rintro _ rfl
    simp only [Sum.elim_inl]
    refine Ret.bindE (eqN_of (by simp)) ?_
    exact Ret.some rfl
noncomputable def advM (c:ContractT) (party:Int) (q:PosT):Int:=
  bif q.own&&safeB c party q then ((movesL c party q).find? fun m=>safeB c party (target c q m)).getD (-2) else -2
theorem safe_at (A:ArOk c party p a) {i:Nat} (hi:i < a.positions.length):idxI (a.positions.map (safeB c party)) (i:Int)=some (safeB c party a.positions[i]):=idxI_at (by rw [List.getElem?_map,List.getElem?_eq_getElem hi];rfl)
theorem safe_to (A:ArOk c party p a) {i:Nat} (hi:i < a.positions.length) {T:List MoveT} (hT:a.moves[i]?=some T) {m:MoveT} (hm:m∈T):idxI (a.positions.map (safeB c party)) m.to=some (safeB c party (target c a.positions[i] m.step)):=by
  obtain ⟨_,t2,t3,t4⟩:=A.tgt hi hT hm
  have:=safe_at A t3
  rw [Int.toNat_of_nonneg t2,t4] at this
  exact this
theorem advised_ret (hc:c.Ok) (A:ArOk c party p a):d_advised a (a.positions.map (safeB c party))=some (a.positions.map (advM c party)):=by
  refine Ret.eq ?_
  have hn:a.positions.length≤1500:=A.F.inv.len
  unfold d_advised
  refine Ret.bindE (mkN_gen hn (by omega)) ?_
  refine Ret.bind (P:=fun o:List Int ⊕ Unit=>o=.inl (a.positions.map (advM c party))) (Ret.forL (fun i s=>s.length=a.positions.length∧∀ j,j < i→s[j]?=(a.positions.map (advM c party))[j]?) (by omega) ⟨by simp,fun j hj=>by omega⟩ (fun i s hi hs => ?_) (fun s hs => ?_)) ?_
  · obtain ⟨T,hT,hst,_⟩:=A.mv hi
    have hTl:=A.len hc hi hT
    have hfin:∀ x:Int,x=advM c party a.positions[i]→(s.set i x).length=a.positions.length∧∀ j,j < i+1→(s.set i x)[j]?=(a.positions.map (advM c party))[j]?:=fun x hx=>by
      refine ⟨by simp [hs.1],fun j hj => ?_⟩
      by_cases e:j=i
      · subst e
        rw [List.getElem?_set_self (by omega),List.getElem?_map,List.getElem?_eq_getElem hi,hx];rfl
      · rw [List.getElem?_set_ne (Ne.symm e)];exact hs.2 j (by omega)
    refine Ret.bind (P:=fun s2:List Int=>∃ x,x=advM c party a.positions[i]∧s2=s.set i x) ?_ (fun s2 h=>by obtain ⟨x,h1,rfl⟩:=h;exact Ret.some (hfin x h1))
    refine Ret.bindE (idxI_at (List.getElem?_eq_getElem hi)) ?_
    refine Ret.bindE (idxN_nat hi) ?_
    refine Ret.bindE (List.getElem?_eq_getElem (show i < s.length by omega)) ?_
    refine Ret.bindE (v := !(a.positions[i].own&&safeB c party a.positions[i])) ?_ ?_
    · rw [safe_at A hi]
      cases a.positions[i].own<;>cases safeB c party a.positions[i]<;>rfl
    refine Ret.ite (fun h=>Ret.some ⟨-2,?_,rfl⟩) (fun h => ?_)
    · unfold advM
      have:(a.positions[i].own&&safeB c party a.positions[i])=false:=by
        cases hx:(a.positions[i].own&&safeB c party a.positions[i]) with
        | false=>rfl
        | true=>rw [hx] at h;cases h
      rw [this];rfl
    · have hos:(a.positions[i].own&&safeB c party a.positions[i])=true:=by
        cases hx:(a.positions[i].own&&safeB c party a.positions[i]) with
        | true=>rfl
        | false=>rw [hx] at h;cases h
      have hadv:advM c party a.positions[i]=((T.map (·.step)).find? fun m=>safeB c party (target c a.positions[i] m)).getD (-2):=by
        unfold advM;rw [hos,hst];rfl
      refine Ret.bindE (idxI_at hT) ?_
      refine Ret.bind (P:=fun o:Unit ⊕ List Int=>(o=.inl ()∧∀ m∈T,safeB c party (target c a.positions[i] m.step)=false)∨∃ x,x=advM c party a.positions[i]∧o=.inr (s.set i x))
        (Ret.forL (fun k _=>∀ (j:Nat) (hj:j < T.length),j < k→safeB c party (target c a.positions[i] T[j].step)=false) (by omega) (fun j _ hj=>by omega) (fun k _ hk hk2 => ?_) (fun _ h=>.inl ⟨rfl,fun m hm=>by obtain ⟨j,hj,rfl⟩:=List.getElem_of_mem hm;exact h j hj hj⟩)) ?_
      · refine Ret.bindE (idxI_at (List.getElem?_eq_getElem hk)) ?_
        refine Ret.bindE (safe_to A hi hT (List.getElem_mem hk)) ?_
        refine Ret.ite (fun hsf => ?_) (fun hsf=>Ret.some fun j hj hjk => ?_)
        · refine Ret.bindE (idxN_nat hi) ?_
          refine Ret.bindE (List.getElem?_set_self (show i < s.length by omega)) ?_
          refine Ret.some (.inr ⟨T[k].step,?_,by rw [List.set_set]⟩)
          rw [hadv]
          have hf:(T.map (·.step)).find? (fun m=>safeB c party (target c a.positions[i] m))=some T[k].step:=by
            have hf2:T.find? ((fun m=>safeB c party (target c a.positions[i] m))∘fun x=>x.step)=some T[k]:=by
              refine List.find?_eq_some_iff_getElem.2 ⟨hsf,k,hk,rfl,fun j hj => ?_⟩
              have:=hk2 j (by omega) hj
              simp only [Function.comp_apply,this,Bool.not_false]
            rw [List.find?_map,hf2];rfl
          rw [hf];rfl
        · by_cases e:j=k
          · subst e;exact hsf
          · exact hk2 j hj (by omega)
      · rintro _ (⟨rfl,h⟩ | ⟨x,h1,rfl⟩)
        · refine Ret.some ⟨-2,?_,rfl⟩
          rw [hadv,List.find?_eq_none.2 (fun m hm => ?_)]
          · rfl
          · obtain ⟨t,ht,rfl⟩:=List.mem_map.1 hm
            simp [h t ht]
        · exact Ret.some ⟨x,h1,rfl⟩
  · have e:s=a.positions.map (advM c party):=List.ext_getElem? fun j=>by
      by_cases h:j < a.positions.length
      · exact hs.2 j h
      · rw [List.getElem?_eq_none (by omega),List.getElem?_eq_none (by simp;omega)]
    rw [e]
  · rintro _ rfl
    simp only [Sum.elim_inl]
    refine Ret.bindE (eqN_of (by simp)) ?_
    exact Ret.some rfl
end
end Go.Proofs.YtjkljacdbljkpaaDoor
namespace Go.Proofs.YtjkljacdbljkpaaDoor
open Go.RowKit
set_option linter.unusedVariables false
set_option linter.unusedSimpArgs false
set_option maxRecDepth 100000
def atO (s:StateT):PosT:={state:=s,own:=true}
section
variable {c:ContractT} {party:Int} {p:PosT} {a:ArenaT}
theorem targetS_ret (hc:c.Ok) (A:ArOk c party p a) {i:Nat} (hi:i < a.positions.length) (x:Int):Ret (d_targetS a (i:Int) x) (fun r=>(x∈movesL c party a.positions[i]∧r.2=true∧∃ j,∃ hj:j < a.positions.length,r.1=(j:Int)∧a.positions[j]=target c a.positions[i] x)∨(x ∉ movesL c party a.positions[i]∧r=(0,false))):=by
  obtain ⟨T,hT,hst,_⟩:=A.mv hi
  have hTl:=A.len hc hi hT
  unfold d_targetS
  refine Ret.bindE (idxI_at hT) ?_
  refine Ret.bind (P:=fun o:Unit ⊕ Int=>(∃ m∈T,m.step=x∧o=.inr m.to)∨(o=.inl ()∧∀ m∈T,m.step≠x)) (Ret.forL (fun k _=>∀ (j:Nat) (hj:j < T.length),j < k→T[j].step≠x) (by omega) (fun j _ hj=>by omega) (fun k _ hk hk2 => ?_) (fun _ h=>.inr ⟨rfl,fun m hm=>by obtain ⟨j,hj,rfl⟩:=List.getElem_of_mem hm;exact h j hj hj⟩)) ?_
  · refine Ret.bindE (idxI_at (List.getElem?_eq_getElem hk)) ?_
    refine Ret.ite (fun h=>Ret.some (.inl ⟨_,List.getElem_mem hk,by simpa using h,rfl⟩)) (fun h=>Ret.some fun j hj hjk => ?_)
    by_cases e:j=k
    · subst e;simpa using h
    · exact hk2 j hj (by omega)
  · rintro _ (⟨m,hm,e,rfl⟩ | ⟨rfl,h⟩)
    · obtain ⟨t1,t2,t3,t4⟩:=A.tgt hi hT hm
      rw [e] at t1 t4
      exact Ret.some (.inl ⟨t1,rfl,m.to.toNat,t3,(Int.toNat_of_nonneg t2).symm,t4⟩)
    · refine Ret.some (.inr ⟨fun hx => ?_,rfl⟩)
      rw [←hst] at hx
      obtain ⟨m,hm,e⟩:=List.mem_map.1 hx
      exact h m hm e
theorem pass_mem {q:PosT} (ho:q.own=true):(-2:Int)∈movesL c party q:=mem_moves.2 (.inl ⟨ho,rfl⟩)
theorem tick_mem {q:PosT} (ho:q.own=false) (hd:q.state.day < c.days):(-1:Int)∈movesL c party q:=mem_moves.2 (.inr (.inl ⟨hd,ho,rfl⟩))
end
end Go.Proofs.YtjkljacdbljkpaaDoor
namespace Go.Proofs.YtjkljacdbljkpaaDoor
open Go.RowKit
set_option linter.unusedVariables false
set_option linter.unusedSimpArgs false
set_option maxRecDepth 100000
noncomputable def stF (c:ContractT) (s0:StateT) (l:List Int):StateT:=l.foldl (fun s x=>stepS c s x) s0
theorem stF_snoc (c:ContractT) (s0:StateT) (l:List Int) (x:Int):stF c s0 (l++[x])=stepS c (stF c s0 l) x:=by unfold stF;rw [List.foldl_append];rfl
structure TrOk (c:ContractT) (P:StateT→Prop) (s0:StateT) (l:List Int):Prop where
  first:P s0
  step:∀ (k:Nat) (hk:k < l.length),(stF c s0 (l.take k)).day < c.days ∧ -1≤l[k]∧l[k] < c.acts.length∧P (stF c s0 (l.take (k+1)))
section
variable {c:ContractT} {P:StateT→Prop} {s0:StateT} {l:List Int}
theorem TrOk.nil (h:P s0):TrOk c P s0 []:=⟨h,fun k hk=>by simp at hk⟩
theorem TrOk.snoc (h:TrOk c P s0 l) {x:Int} (hd:(stF c s0 l).day < c.days) (h0 : -1≤x) (h1:x < c.acts.length) (hP:P (stepS c (stF c s0 l) x)):TrOk c P s0 (l++[x]):=by
  refine ⟨h.first,fun k hk => ?_⟩
  rw [List.length_append] at hk
  simp only [List.length_cons,List.length_nil] at hk
  by_cases e:k=l.length
  · subst e
    have e1:(l++[x]).take l.length=l:=by simp
    have e2:(l++[x]).take (l.length+1)=l++[x]:=List.take_of_length_le (by simp)
    rw [e1,e2,stF_snoc]
    simp only [List.getElem_append_right (Nat.le_refl _),Nat.sub_self,List.getElem_cons_zero]
    exact ⟨hd,h0,h1,hP⟩
  · have hk2:k < l.length:=by omega
    rw [List.take_append_of_le_length (by omega),List.take_append_of_le_length (by omega),List.getElem_append_left hk2]
    exact h.step k hk2
theorem TrOk.take (h:TrOk c P s0 l) (n:Nat):TrOk c P s0 (l.take n):=by
  refine ⟨h.first,fun k hk => ?_⟩
  rw [List.length_take] at hk
  have h1:=h.step k (by omega)
  rw [List.take_take,List.take_take,show min k n=k by omega,show min (k+1) n=k+1 by omega,List.getElem_take]
  exact h1
theorem TrOk.all (h:TrOk c P s0 l):∀ k,k≤l.length→P (stF c s0 (l.take k))
  | 0,_=>by rw [List.take_zero];exact h.first
  | k+1,hk=>(h.step k (by omega)).2.2.2
theorem TrOk.vs (hc:c.Ok) (hv:VS c s0) (h:TrOk c P s0 l):∀ k,k≤l.length→VS c (stF c s0 (l.take k))
  | 0,_=>by rw [List.take_zero];exact hv
  | k+1,hk=>by
    obtain ⟨a1,a2,a3,_⟩:=h.step k (by omega)
    have h2:=TrOk.vs hc hv h k (by omega)
    rw [List.take_succ_eq_append_getElem (by omega),stF_snoc]
    exact (step_ok hc h2 a2 a3 a1).2.1
theorem TrOk.vsl (hc:c.Ok) (hv:VS c s0) (h:TrOk c P s0 l):VS c (stF c s0 l):=by
  have:=h.vs hc hv l.length (Nat.le_refl _)
  rwa [List.take_length] at this
end
def doerF (c:ContractT) (s:StateT) (x:Int):Int:=if x = -1 then -1 else match c.acts[x.toNat]? with
  | some a=>doerI s.holders a
  | none => -1
theorem doerS_ret {c:ContractT} {s:StateT} (hv:VS c s) {x:Int} (h0 : -1≤x) (h1:x < c.acts.length):d_doerS c s x=some (doerF c s x):=by
  unfold d_doerS doerF
  by_cases e:x = -1
  · subst e;rfl
  · obtain ⟨i,rfl⟩:∃ i:Nat,x=(i:Int):=⟨x.toNat,by omega⟩
    have hi:i < c.acts.length:=by omega
    have av:=av_of hv.cv (List.getElem?_eq_getElem hi)
    have hr:=av.role
    have hlh:=hv.lh
    rw [beq_eq_false_iff_ne.2 e,if_neg e,cond_false,idxI_at (List.getElem?_eq_getElem hi),Int.toNat_natCast,List.getElem?_eq_getElem hi]
    simp only [Option.bind_some,doerI]
    cases hz:(c.acts[i].role == -1) with
    | true=>rfl
    | false=>
      have hz':c.acts[i].role ≠ -1:=by simpa using hz
      obtain ⟨h2,h3⟩:=idxI_lt (l:=s.holders) (n:=c.acts[i].role) (by omega) (by omega)
      simp only [cond_false,h3,Option.bind_some]
      rw [List.getElem?_eq_getElem h2];rfl
section
variable {c:ContractT} {party:Int} {p:PosT} {a:ArenaT}
theorem do_ret (hc:c.Ok) (A:ArOk c party p a) {s:StateT} {j:Nat} (hj:j < a.positions.length) (hs:a.positions[j]=atO s) (hd:s.day < c.days) {x:Int} (h0 : -1≤x) (h1:x < c.acts.length) {l:List Int} (hl:l.length≤5000) :
    Ret (d_155b x l (j:Int) c a party) (fun r=>r.1=l++[x]∧∃ j2,∃ hj2:j2 < a.positions.length,r.2=(j2:Int)∧a.positions[j2]=atO (stepS c s x)):=by
  have hv:VS c s:=by have:=A.F.inv.vs _ (List.getElem_mem hj);rw [hs] at this;exact this
  have hp0:=A.p0
  unfold d_155b
  refine Ret.bindE (appI_of (by simp;omega)) ?_
  refine Ret.bind (P:=fun v:Int=>∃ o:Bool,(o=(doerF c s x == party))∧∃ j1,∃ hj1:j1 < a.positions.length,v=(j1:Int)∧a.positions[j1] = {state:=s,own:=o}) ?_ ?_
  · refine Ret.bindE (idxI_at (List.getElem?_eq_getElem hj)) ?_
    rw [hs]
    refine Ret.bindE (doerS_ret hv h0 h1) ?_
    refine Ret.ite (fun h=>Ret.some ⟨true,h.symm,j,hj,rfl,hs⟩) (fun h => ?_)
    refine Ret.bind (targetS_ret hc A hj (-2)) ?_
    intro r hr
    obtain ⟨_,_,j1,hj1,g1,g2⟩:=hr.resolve_right (fun h=>by rw [hs] at h;exact h.1 (pass_mem rfl))
    rw [hs,target_pass] at g2
    exact Ret.some ⟨false,h.symm,j1,hj1,g1,g2⟩
  · rintro _ ⟨o,ho,j1,hj1,rfl,h2⟩
    refine Ret.bind (targetS_ret hc A hj1 x) ?_
    rintro r (⟨g1,g2,j2,hj2,g3,g4⟩ | ⟨g1,rfl⟩)
    · rw [h2,target_step c _ h0] at g4
      refine Ret.ite (fun _=>Ret.some ⟨rfl,j2,hj2,g3,g4⟩) (fun h=>by rw [g2] at h;cases h)
    · refine Ret.ite (fun h=>by cases h) (fun _=>Ret.some ⟨rfl,j,hj,rfl,?_⟩)
      rw [h2] at g1
      by_cases e:x = -1
      · exfalso
        subst e
        have:doerF c s (-1) = -1:=by unfold doerF;rw [if_pos rfl]
        rw [this,beq_eq_false_iff_ne.2 (by omega)] at ho
        subst ho
        exact g1 (tick_mem rfl hd)
      · obtain ⟨i,rfl⟩:∃ i:Nat,x=(i:Int):=⟨x.toNat,by omega⟩
        have hi:i < c.acts.length:=by omega
        cases hsm:sameB (stepS c s i) s with
        | true=>rw [hs,sameB_iff.1 hsm]
        | false=>
          exfalso
          refine g1 (mem_moves.2 (.inr (.inr ⟨hd,i,hi,?_,rfl⟩)))
          have hdo:doerF c s (i:Int)=doerI s.holders c.acts[i]:=by
            unfold doerF;rw [if_neg (by omega),Int.toNat_natCast,List.getElem?_eq_getElem hi]
          rw [hdo] at ho
          simp only [mvB,List.getElem?_eq_getElem hi,hsm]
          rw [ho];simp
end
end Go.Proofs.YtjkljacdbljkpaaDoor
namespace Go.Proofs.YtjkljacdbljkpaaDoor
set_option linter.unusedVariables false
set_option linter.unusedSimpArgs false
set_option maxRecDepth 100000
def Le {α:Type} (x y:Option α):Prop:=∀ r,x=some r→y=some r
theorem Le.refl {α:Type} (x:Option α):Le x x:=fun _ h=>h
theorem Le.bind {α β:Type} {x y:Option α} {f g:α→Option β} (h:Le x y) (hf:∀ a,Le (f a) (g a)):Le (x.bind f) (y.bind g):=fun r hr=>by
  obtain ⟨a,h1,h2⟩:=Option.bind_eq_some_iff.1 hr
  rw [h a h1];exact hf a r h2
theorem Le.cond {α:Type} (b:Bool) {x y x' y':Option α} (h1:Le x x') (h2:Le y y'):Le (bif b then x else y) (bif b then x' else y'):=by
  cases b
  · exact h2
  · exact h1
theorem Le.elim {α β γ:Type} {f f':α→Option γ} {g g':β→Option γ} (h1:∀ a,Le (f a) (f' a)) (h2:∀ a,Le (g a) (g' a)) (o:α ⊕ β):Le (Sum.elim f g o) (Sum.elim f' g' o):=by
  cases o
  · exact h1 _
  · exact h2 _
theorem Le.forFrom {σ ρ:Type} {f g:Nat→σ→Option (σ ⊕ ρ)} (h:∀ i s,Le (f i s) (g i s)):∀ (k i:Nat) (s:σ),Le (forFrom f i k s) (forFrom g i k s)
  | 0,i,s=>Le.refl _
  | k+1,i,s=>fun r hr=>by
    simp only [Go.Proofs.YtjkljacdbljkpaaDoor.forFrom] at hr ⊢
    split at hr
    · cases hr
    · rename_i e;rw [h i s _ e];exact hr
    · rename_i e;rw [h i s _ e];exact Le.forFrom h k (i+1) _ r hr
theorem Le.forR {σ ρ:Type} {f g:Nat→σ→Option (σ ⊕ ρ)} (h:∀ i s,Le (f i s) (g i s)) (n:Int) (s:σ):Le (forR n f s) (forR n g s):=fun r hr=>by
  obtain ⟨h1,h2⟩:=forR_some hr
  rw [forR_pos h1];exact Le.forFrom h _ _ _ r h2
theorem Le.iterN {σ ρ:Type} {f g:σ→Option (σ ⊕ ρ)} (h:∀ s,Le (f s) (g s)):∀ (k:Nat) (s:σ),Le (Go.Proofs.YtjkljacdbljkpaaDoor.iterN f k s) (Go.Proofs.YtjkljacdbljkpaaDoor.iterN g k s)
  | 0,s=>Le.refl _
  | k+1,s=>fun r hr=>by
    simp only [Go.Proofs.YtjkljacdbljkpaaDoor.iterN] at hr ⊢
    split at hr
    · cases hr
    · rename_i e;rw [h s _ e];exact hr
    · rename_i e;rw [h s _ e];exact Le.iterN h k _ r hr
theorem Le.iter {σ ρ:Type} {f g:σ→Option (σ ⊕ ρ)} (h:∀ s,Le (f s) (g s)) (k:Nat) (s:σ):Le (Go.Proofs.YtjkljacdbljkpaaDoor.iterN f k s) (Go.Proofs.YtjkljacdbljkpaaDoor.iter g s):=fun r hr=>iter_some.2 ⟨k,Le.iterN h k s r hr⟩
def edig:Nat→Nat→List UInt8
  | 0,u=>[]
  | f+1,u=>if u < 10 then [UInt8.ofNat (48+u)] else edig f (u / 10)++[UInt8.ofNat (48+u % 10)]
theorem edig_eq:∀ (f u:Nat),u < 10 ^ (f+1)→edig (f+1) u=Lib.decDigits u
  | 0,u,h=>by
    rw [Lib.decDigits]
    simp only [edig]
    rw [if_pos (by omega),dif_pos (by omega)]
  | f+1,u,h=>by
    rw [Lib.decDigits,edig]
    by_cases hu:u < 10
    · rw [if_pos hu,dif_pos hu]
    · rw [if_neg hu,dif_neg hu,edig_eq f (u / 10) (by rw [Nat.pow_succ] at h;omega)]
def smallI (n:Int):Bool:=decide (-1000 < n)&&decide (n < 1000)
def itoaE (n:Int):List UInt8:=if n < 0 then 45::edig 4 n.natAbs else edig 4 n.toNat
theorem itoaE_eq {n:Int} (h:smallI n=true):itoaE n=Lib.itoa n:=by
  simp only [smallI,Bool.and_eq_true,decide_eq_true_eq] at h
  unfold itoaE Lib.itoa
  rw [edig_eq 3 n.natAbs (by omega),edig_eq 3 n.toNat (by omega)]
def numE (n:Int):List UInt8:=itoaE n++[32]
theorem numE_eq {n:Int} (h:smallI n=true):numE n=numT n:=by unfold numE numT;rw [itoaE_eq h]
def markE (m:MarkT):List UInt8:=numE m.status++numE m.left++numE m.got++numE m.bearer++flagT m.paused
def smallM (m:MarkT):Bool:=smallI m.status&&(smallI m.left&&(smallI m.got&&smallI m.bearer))
def textE (p:PosT):List UInt8:=flagT p.own++numE p.state.day++p.state.holders.flatMap numE++p.state.used.flatMap flagT++p.state.marks.flatMap markE
def smallP (p:PosT):Bool:=smallI p.state.day&&(p.state.holders.all smallI&&p.state.marks.all smallM)
theorem flatMap_cong {α β:Type} {f g:α→List β}:∀ {l:List α},(∀ a∈l,f a=g a)→l.flatMap f=l.flatMap g
  | [],_=>rfl
  | a::l,h=>by rw [List.flatMap_cons,List.flatMap_cons,h a List.mem_cons_self,flatMap_cong fun b hb=>h b (List.mem_cons_of_mem _ hb)]
theorem textE_eq {p:PosT} (h:smallP p=true):textE p=textL p:=by
  simp only [smallP,Bool.and_eq_true,List.all_eq_true] at h
  unfold textE textL
  rw [numE_eq h.1,flatMap_cong (f:=numE) (g:=numT) (fun a ha=>numE_eq (h.2.1 a ha)),flatMap_cong (f:=markE) (g:=markT) (fun a ha=>by
    have:=h.2.2 a ha
    simp only [smallM,Bool.and_eq_true] at this
    show numE a.status++numE a.left++numE a.got++numE a.bearer++flagT a.paused=numT a.status++numT a.left++numT a.got++numT a.bearer++flagT a.paused
    rw [numE_eq this.1,numE_eq this.2.1,numE_eq this.2.2.1,numE_eq this.2.2.2])]
theorem small_in {n:Int} (h:smallI n=true):inI64 n=true:=by
  simp only [smallI,inI64,Bool.and_eq_true,decide_eq_true_eq] at h ⊢
  omega
def e_text (p:PosT):Option ByteArray:=bif smallP p&&decide ((textE p).length≤1000000000) then some ⟨(textE p).toArray⟩ else none
theorem le_text (p:PosT):Le (e_text p) (d_text p):=fun r h=>by
  unfold e_text at h
  cases hq:(smallP p&&decide ((textE p).length≤1000000000)) with
  | false=>rw [hq] at h;cases h
  | true=>
    rw [hq] at h
    simp only [Bool.and_eq_true,decide_eq_true_eq] at hq
    have e:=textE_eq hq.1
    unfold d_text
    rw [if_pos,←e]
    · exact h
    · have h1:=hq.1
      simp only [smallP,Bool.and_eq_true,List.all_eq_true] at h1
      simp only [okP,Bool.and_eq_true,decide_eq_true_eq,List.all_eq_true]
      refine ⟨⟨⟨small_in h1.1,fun x hx=>small_in (h1.2.1 x hx)⟩,fun m hm => ?_⟩,by rw [←e];exact hq.2⟩
      have:=h1.2.2 m hm
      simp only [smallM,Bool.and_eq_true] at this
      exact ⟨⟨⟨small_in this.1,small_in this.2.1⟩,small_in this.2.2.1⟩,small_in this.2.2.2⟩
noncomputable def e_69a (p1:ContractT) (p2:Int) (p3:List Int) (p4:Nat) (p5:List Bool) (p6:Nat) (p7:List MarkT) (p8:Nat):Option ((List MarkT)):=
  (Option.bind (iterN (σ:=Bool×(List MarkT)) (ρ:=(List MarkT)) (fun s1=>(bif s1.1 then (Option.bind (forR (σ:=Bool×(List MarkT)) (ρ:=Unit) (p1.clauses.length:Int) (fun i2 s2=>(Option.bind (Option.bind (idxI p1.clauses (i2:Int)) fun e1=>(Option.bind (eqN p4 p3.length) fun g1=>(Option.bind (eqN p6 p5.length) fun g2=>(Option.bind (eqN p8 s2.2.length) fun g3=>(Option.bind (d_ready p1 ({day:=p2,holders:=p3,used:=p5,marks:=s2.2}:StateT) (i2:Int)) fun r1=>(bif r1 then (Option.bind (bif (e1.kind == 4) then some (-1) else (Option.bind (idxN p4 e1.role) fun k1=>(Option.bind (p3[k1]?) fun e2=>some e2))) fun (v1:Int)=>(Option.bind (idxN p8 (i2:Int)) fun k2=>(Option.bind (s2.2[k2]?) fun e3=>some (true,(s2.2.set k2 ({status:=1,left:=e1.after,got:=0,bearer:=v1,paused:=false}:MarkT)))))) else some (s2.1,s2.2))))))) fun (v2:Bool×(List MarkT))=>some (.inl (v2.1,v2.2)))) (false,s1.2)) (Sum.elim (fun (s2:Bool×(List MarkT))=>some (.inl (s2.1,s2.2))) (fun _=>none))) else some (.inr s1.2))) 40 (true,p7)) (fun (y1:(List MarkT))=>some y1))
theorem le_69a (p1:ContractT) (p2:Int) (p3:List Int) (p4:Nat) (p5:List Bool) (p6:Nat) (p7:List MarkT) (p8:Nat):Le (e_69a p1 p2 p3 p4 p5 p6 p7 p8) (d_69a p1 p2 p3 p4 p5 p6 p7 p8):=by
  unfold e_69a d_69a
  repeat' (first | with_reducible exact Le.refl _ | with_reducible refine Le.bind ?_ (fun _ => ?_) | with_reducible refine Le.cond _ ?_ ?_ | with_reducible refine Le.forR (fun _ _ => ?_) _ _ | with_reducible refine Le.iter (fun _ => ?_) _ _ | with_reducible refine Le.elim (fun _ => ?_) (fun _ => ?_) _)
noncomputable def e_Start (c:ContractT):Option (StateT×Int):=
  (Option.bind (d_Valid c) fun r1=>(bif (r1.1 == 0) then (Option.bind (cloneI 8 c.holders) fun e1=>(Option.bind (mkN 1 (c.acts.length:Int)) fun k1=>(Option.bind (mkN 40 (c.clauses.length:Int)) fun k2=>(Option.bind (forR (σ:=(List MarkT)) (ρ:=Unit) (c.clauses.length:Int) (fun i1 s1=>(Option.bind (Option.bind (idxI c.clauses (i1:Int)) fun e2=>(Option.bind (idxN k2 (i1:Int)) fun k3=>(Option.bind (s1[k3]?) fun e3=>(bif e2.waived then (Option.bind (idxN k2 (i1:Int)) fun k4=>(Option.bind ((s1.set k3 ({status:=0,left:=0,got:=0,bearer:=(-1),paused:=false}:MarkT))[k4]?) fun e4=>some ((s1.set k3 ({status:=0,left:=0,got:=0,bearer:=(-1),paused:=false}:MarkT)).set k4 ({e4 with status:=5}:MarkT)))) else some (s1.set k3 ({status:=0,left:=0,got:=0,bearer:=(-1),paused:=false}:MarkT)))))) fun (v1:(List MarkT))=>some (.inl v1))) (List.replicate k2 ({status:=0,left:=0,got:=0,bearer:=0,paused:=false}:MarkT))) (Sum.elim (fun (s1:(List MarkT))=>(Option.bind (e_69a c 0 e1 e1.length (List.replicate k1 false) k1 s1 k2) fun r2=>(Option.bind (eqN k1 (List.replicate k1 false).length) fun g1=>(Option.bind (eqN k2 r2.length) fun g2=>some (({day:=0,holders:=e1,used:=(List.replicate k1 false),marks:=r2}:StateT),0))))) (fun _=>none)))))) else some (({day:=0,holders:=[],used:=[],marks:=[]}:StateT),1)))
theorem le_Start (c:ContractT):Le (e_Start c) (d_Start c):=by
  unfold e_Start d_Start
  repeat' (first | with_reducible exact Le.refl _ | with_reducible exact le_69a _ _ _ _ _ _ _ _ | with_reducible refine Le.bind ?_ (fun _ => ?_) | with_reducible refine Le.cond _ ?_ ?_ | with_reducible refine Le.forR (fun _ _ => ?_) _ _ | with_reducible refine Le.iter (fun _ => ?_) _ _ | with_reducible refine Le.elim (fun _ => ?_) (fun _ => ?_) _)
noncomputable def e_BinarySearch (l:List Int) (v:Int):Option (Int×Bool):=
  (Option.bind (Option.bind (iterN (σ:=Int×Int) (ρ:=Int) (fun s1=>(bif decide (s1.1 < s1.2) then (Option.bind (shrI .u64 .u64 (IntKind.u64.wrap (IntKind.i64.wrap (s1.1+s1.2))) 1) fun e1=>(Option.bind (idxI l (IntKind.i64.wrap e1)) fun e2=>(Option.bind (d_less e2 v) fun r1=>(bif r1 then some (.inl ((IntKind.i64.wrap ((IntKind.i64.wrap e1)+1)),s1.2)) else some (.inl (s1.1,(IntKind.i64.wrap e1))))))) else some (.inr s1.1))) 40 (0,(l.length:Int))) (fun (y1:Int)=>some y1)) fun (v1:Int)=>(Option.bind (bif decide (v1 < (l.length:Int)) then (Option.bind (idxI l v1) fun e3=>(bif (e3 == v) then some true else (Option.bind (d_isNaN e3) fun r2=>(bif r2 then (Option.bind (d_isNaN v) fun r3=>some r3) else some false)))) else some false) fun v2=>some (v1,v2)))
theorem le_BinarySearch (l:List Int) (v:Int):Le (e_BinarySearch l v) (d_BinarySearch l v):=by
  unfold e_BinarySearch d_BinarySearch
  repeat' (first | with_reducible exact Le.refl _ | with_reducible refine Le.bind ?_ (fun _ => ?_) | with_reducible refine Le.cond _ ?_ ?_ | with_reducible refine Le.forR (fun _ _ => ?_) _ _ | with_reducible refine Le.iter (fun _ => ?_) _ _ | with_reducible refine Le.elim (fun _ => ?_) (fun _ => ?_) _)
noncomputable def e_70a (p1:ContractT) (p2:Int) (p3:List Int) (p4:Nat) (p5:List Bool) (p6:Nat) (p7:List MarkT) (p8:Nat):Option ((List MarkT)):=
  (Option.bind (e_BinarySearch p1.off p2) fun r1=>(Option.bind (Option.bind (d_66a p1 p2 p3 p4 p5 p6 p7 p8) fun r2=>(Option.bind (forR (σ:=(List MarkT)) (ρ:=(List MarkT)) (p8:Int) (fun i1 s1=>(Option.bind (Option.bind (idxN p8 (i1:Int)) fun k1=>(Option.bind (s1[k1]?) fun e1=>(Option.bind (d_running e1) fun r3=>(bif r3 then (Option.bind (Option.bind (idxI p1.clauses (i1:Int)) fun e2=>(Option.bind (Option.bind (idxN p8 (i1:Int)) fun k2=>(Option.bind (s1[k2]?) fun e3=>(bif e3.paused then some true else (bif e2.business then some r1.2 else some false)))) fun v1=>(bif v1 then some s1 else (Option.bind (idxN p8 (i1:Int)) fun k3=>(Option.bind (s1[k3]?) fun e4=>(Option.bind (idxN p8 (i1:Int)) fun k4=>(Option.bind ((s1.set k3 ({e4 with left:=(IntKind.i64.wrap (e4.left - 1))}:MarkT))[k4]?) fun e5=>(bif (e5.left == 0) then (Option.bind (bif (e2.kind == (0:Int)) then none else (bif (e2.kind == (1:Int)) then (Option.bind (d_63a (i1:Int) p1 p2 p3 p4 p5 p6 (s1.set k3 ({e4 with left:=(IntKind.i64.wrap (e4.left - 1))}:MarkT)) p8) fun r7=>some r7) else (bif (e2.kind == (2:Int)) then (Option.bind (d_61a (i1:Int) p1 p2 p3 p4 p5 p6 (s1.set k3 ({e4 with left:=(IntKind.i64.wrap (e4.left - 1))}:MarkT)) p8) fun r6=>some r6) else (bif (e2.kind == (3:Int)) then (Option.bind (d_64a (i1:Int) p1 p2 p3 p4 p5 p6 (s1.set k3 ({e4 with left:=(IntKind.i64.wrap (e4.left - 1))}:MarkT)) p8) fun r5=>some r5) else (bif (e2.kind == (4:Int)) then (Option.bind (d_64a (i1:Int) p1 p2 p3 p4 p5 p6 (s1.set k3 ({e4 with left:=(IntKind.i64.wrap (e4.left - 1))}:MarkT)) p8) fun r4=>some r4) else none))))) fun v2=>some v2) else some (s1.set k3 ({e4 with left:=(IntKind.i64.wrap (e4.left - 1))}:MarkT)))))))))) fun (v3:(List MarkT))=>some ((!true),v3)) else some (false,s1))))) fun (v4:Bool×(List MarkT))=>(bif v4.1 then some (.inr v4.2) else some (.inl v4.2)))) p7) (Sum.elim (fun (s1:(List MarkT))=>some s1) (fun (y1:(List MarkT))=>some y1)))) fun (v5:(List MarkT))=>(Option.bind (e_69a p1 (IntKind.i64.wrap (p2+1)) p3 p4 p5 p6 v5 p8) fun r8=>some r8)))
theorem le_70a (p1:ContractT) (p2:Int) (p3:List Int) (p4:Nat) (p5:List Bool) (p6:Nat) (p7:List MarkT) (p8:Nat):Le (e_70a p1 p2 p3 p4 p5 p6 p7 p8) (d_70a p1 p2 p3 p4 p5 p6 p7 p8):=by
  unfold e_70a d_70a
  repeat' (first | with_reducible exact Le.refl _ | with_reducible exact le_BinarySearch _ _ | with_reducible exact le_69a _ _ _ _ _ _ _ _ | with_reducible refine Le.bind ?_ (fun _ => ?_) | with_reducible refine Le.cond _ ?_ ?_ | with_reducible refine Le.forR (fun _ _ => ?_) _ _ | with_reducible refine Le.iter (fun _ => ?_) _ _ | with_reducible refine Le.elim (fun _ => ?_) (fun _ => ?_) _)
noncomputable def e_60a (p1:Int) (p2:ContractT) (p3:Int) (p4:List Int) (p5:Nat) (p6:List Bool) (p7:Nat) (p8:List MarkT) (p9:Nat):Option ((List Int)×(List Bool)×(List MarkT)):=
  (Option.bind (idxI p2.acts p1) fun e1=>(Option.bind (bif (e1.kind == 1) then some false else (Option.bind (idxN p7 p1) fun k1=>(Option.bind (p6[k1]?) fun e2=>some e2))) fun v1=>(bif v1 then some (p4,p6,p8) else (Option.bind (Option.bind (d_66a p2 p3 p4 p5 p6 p7 p8 p9) fun r1=>(Option.bind (forR (σ:=(List MarkT)) (ρ:=(List MarkT)) (p9:Int) (fun i1 s1=>(Option.bind (Option.bind (idxN p9 (i1:Int)) fun k2=>(Option.bind (s1[k2]?) fun e3=>(Option.bind (d_running e3) fun r2=>(bif r2 then (Option.bind (Option.bind (idxI p2.clauses (i1:Int)) fun e4=>(bif (p1 == e4.pause) then (Option.bind (idxN p9 (i1:Int)) fun k3=>(Option.bind (s1[k3]?) fun e5=>some (s1.set k3 ({e5 with paused:=true}:MarkT)))) else (Option.bind (idxI p2.clauses (i1:Int)) fun e6=>(bif (p1 == e6.resume) then (Option.bind (idxN p9 (i1:Int)) fun k4=>(Option.bind (s1[k4]?) fun e7=>some (s1.set k4 ({e7 with paused:=false}:MarkT)))) else some s1)))) fun (v2:(List MarkT))=>some ((!true),v2)) else some (false,s1))))) fun (v3:Bool×(List MarkT))=>(bif v3.1 then some (.inr v3.2) else some (.inl v3.2)))) p8) (Sum.elim (fun (s1:(List MarkT))=>some s1) (fun (y1:(List MarkT))=>some y1)))) fun (v4:(List MarkT))=>(Option.bind (eqN p5 p4.length) fun g1=>(Option.bind (eqN p7 p6.length) fun g2=>(Option.bind (eqN p9 v4.length) fun g3=>(Option.bind (d_doer p2 ({day:=p3,holders:=p4,used:=p6,marks:=v4}:StateT) p1) fun r3=>(Option.bind (Option.bind (d_66a p2 p3 p4 p5 p6 p7 v4 p9) fun r4=>(Option.bind (forR (σ:=(List MarkT)) (ρ:=(List MarkT)) (p9:Int) (fun i2 s2=>(Option.bind (Option.bind (idxN p9 (i2:Int)) fun k5=>(Option.bind (s2[k5]?) fun e8=>(Option.bind (d_running e8) fun r5=>(bif r5 then (Option.bind (Option.bind (idxI p2.clauses (i2:Int)) fun e9=>(Option.bind (bif (e9.act == p1) then (bif (e9.kind == 4) then some true else (Option.bind (idxN p9 (i2:Int)) fun k6=>(Option.bind (s2[k6]?) fun e10=>some (e10.bearer == r3)))) else some false) fun v5=>(bif v5 then (Option.bind (bif (e9.kind == (0:Int)) then none else (bif (e9.kind == (1:Int)) then (Option.bind (d_65a (i2:Int) p2 p3 p4 p5 p6 p7 s2 p9) fun r9=>some r9) else (bif (e9.kind == (2:Int)) then (Option.bind (d_71a (i2:Int) p2 p3 p4 p5 p6 p7 s2 p9) fun r8=>some r8) else (bif (e9.kind == (3:Int)) then (Option.bind (d_61a (i2:Int) p2 p3 p4 p5 p6 p7 s2 p9) fun r7=>some r7) else (bif (e9.kind == (4:Int)) then (Option.bind (d_61a (i2:Int) p2 p3 p4 p5 p6 p7 s2 p9) fun r6=>some r6) else none))))) fun v6=>some v6) else some s2))) fun (v7:(List MarkT))=>some ((!true),v7)) else some (false,s2))))) fun (v8:Bool×(List MarkT))=>(bif v8.1 then some (.inr v8.2) else some (.inl v8.2)))) v4) (Sum.elim (fun (s2:(List MarkT))=>some s2) (fun (y2:(List MarkT))=>some y2)))) fun (v9:(List MarkT))=>(Option.bind (bif (e1.kind == 1) then some (p4,p6,v9) else (Option.bind (d_68a p1 p2 p3 p4 p5 p6 p7 v9 p9) fun r10=>some (r10.1,r10.2.1,r10.2.2))) fun (v10:(List Int)×(List Bool)×(List MarkT))=>(Option.bind (e_69a p2 p3 v10.1 p5 v10.2.1 p7 v10.2.2 p9) fun r11=>some (v10.1,v10.2.1,r11))))))))))))
theorem le_60a (p1:Int) (p2:ContractT) (p3:Int) (p4:List Int) (p5:Nat) (p6:List Bool) (p7:Nat) (p8:List MarkT) (p9:Nat):Le (e_60a p1 p2 p3 p4 p5 p6 p7 p8 p9) (d_60a p1 p2 p3 p4 p5 p6 p7 p8 p9):=by
  unfold e_60a d_60a
  repeat' (first | with_reducible exact Le.refl _ | with_reducible exact le_69a _ _ _ _ _ _ _ _ | with_reducible refine Le.bind ?_ (fun _ => ?_) | with_reducible refine Le.cond _ ?_ ?_ | with_reducible refine Le.forR (fun _ _ => ?_) _ _ | with_reducible refine Le.iter (fun _ => ?_) _ _ | with_reducible refine Le.elim (fun _ => ?_) (fun _ => ?_) _)
noncomputable def e_Step (c:ContractT) (s:StateT) (step:Int):Option (StateT×Int):=
  (Option.bind (Option.bind (d_ValidS c s) fun r1=>(bif r1 then (bif decide (step < (-1)) then some true else some (decide ((c.acts.length:Int)≤step))) else some true)) fun v1=>(bif v1 then some (({day:=0,holders:=[],used:=[],marks:=[]}:StateT),1) else (bif (s.day == c.days) then some (({day:=0,holders:=[],used:=[],marks:=[]}:StateT),13) else (Option.bind (mkN 8 (s.holders.length:Int)) fun k1=>(Option.bind (mkN 1 (s.used.length:Int)) fun k2=>(Option.bind (mkN 40 (s.marks.length:Int)) fun k3=>(Option.bind (copyI (α:=Int) k1 (List.replicate k1 0) s.holders) fun e1=>(Option.bind (copyI (α:=Bool) k2 (List.replicate k2 false) s.used) fun e2=>(Option.bind (copyI (α:=MarkT) k3 (List.replicate k3 ({status:=0,left:=0,got:=0,bearer:=0,paused:=false}:MarkT)) s.marks) fun e3=>(Option.bind (bif (step == (-1)) then (Option.bind (e_70a c s.day e1 k1 e2 k2 e3 k3) fun r2=>some (e1,e2,r2,(IntKind.i64.wrap (s.day+1)))) else (Option.bind (e_60a step c s.day e1 k1 e2 k2 e3 k3) fun r3=>some (r3.1,r3.2.1,r3.2.2,s.day))) fun (v2:(List Int)×(List Bool)×(List MarkT)×Int)=>(Option.bind (eqN k1 v2.1.length) fun g1=>(Option.bind (eqN k2 v2.2.1.length) fun g2=>(Option.bind (eqN k3 v2.2.2.1.length) fun g3=>some (({day:=v2.2.2.2,holders:=v2.1,used:=v2.2.1,marks:=v2.2.2.1}:StateT),0))))))))))))))
theorem le_Step (c:ContractT) (s:StateT) (step:Int):Le (e_Step c s step) (d_Step c s step):=by
  unfold e_Step d_Step
  repeat' (first | with_reducible exact Le.refl _ | with_reducible exact le_70a _ _ _ _ _ _ _ _ | with_reducible exact le_60a _ _ _ _ _ _ _ _ _ | with_reducible refine Le.bind ?_ (fun _ => ?_) | with_reducible refine Le.cond _ ?_ ?_ | with_reducible refine Le.forR (fun _ _ => ?_) _ _ | with_reducible refine Le.iter (fun _ => ?_) _ _ | with_reducible refine Le.elim (fun _ => ?_) (fun _ => ?_) _)
noncomputable def e_From (c:ContractT) (party:Int) (p:PosT):Option (ArenaT×Int):=
  (Option.bind (d_playable c party p) fun r1=>(bif r1 then (Option.bind (d_copied p.state) fun r2=>(Option.bind (e_text p) fun r3=>(Option.bind (α:=((List PosT)×(List (List MoveT))) ⊕ Unit) (Option.bind (iterN (σ:=Int×(List PosT)×(List (List MoveT))×(List (ByteArray×Int))) (ρ:=((List PosT)×(List (List MoveT))) ⊕ Unit) (fun s1=>(bif decide (s1.1 < (s1.2.1.length:Int)) then (Option.bind (α:=((List PosT)×(List (ByteArray×Int))×(List MoveT)) ⊕ Unit) (Option.bind (idxI s1.2.1 s1.1) fun e1=>(Option.bind (d_78b c party e1) fun r4=>(Option.bind (α:=((List PosT)×(List (ByteArray×Int))×(List MoveT)) ⊕ (Unit ⊕ ((List PosT)×(List (ByteArray×Int))×(List MoveT)))) (bif e1.own then (Option.bind (d_copied e1.state) fun r5=>(Option.bind (e_text ({state:=r5,own:=false}:PosT)) fun r6=>(Option.bind (α:=(Int×(List PosT)×(List (ByteArray×Int))) ⊕ Unit) (bif ((mget r6 s1.2.2.2).isSome) then some (.inl (((mget r6 s1.2.2.2).getD 0),s1.2.1,s1.2.2.2)) else (bif ((s1.2.1.length:Int) == 1500) then some (.inr ()) else (Option.bind (appI (α:=PosT) 88 s1.2.1 [({state:=r5,own:=false}:PosT)]) fun e2=>some (.inl ((s1.2.1.length:Int),e2,(mset r6 (s1.2.1.length:Int) s1.2.2.2)))))) (Sum.elim (fun (v1:Int×(List PosT)×(List (ByteArray×Int)))=>(Option.bind (appI (α:=MoveT) 16 [] [({step:=(-2),to:=v1.1}:MoveT)]) fun e3=>(bif decide (c.days≤e1.state.day) then some (.inr (.inr (v1.2.1,v1.2.2,e3))) else some (.inl (v1.2.1,v1.2.2,e3))))) (fun (y1:Unit)=>some (.inr (.inl ()))))))) else (bif decide (c.days≤e1.state.day) then some (.inr (.inr (s1.2.1,s1.2.2.2,[]))) else some (.inl (s1.2.1,s1.2.2.2,[])))) (Sum.elim (fun (v2:(List PosT)×(List (ByteArray×Int))×(List MoveT))=>(Option.bind (α:=((List PosT)×(List (ByteArray×Int))×(List MoveT)) ⊕ Unit) (bif e1.own then some (.inl (v2.1,v2.2.1,v2.2.2)) else (Option.bind (e_Step c e1.state (-1)) fun r7=>(Option.bind (e_text ({state:=r7.1,own:=true}:PosT)) fun r8=>(Option.bind (α:=(Int×(List PosT)×(List (ByteArray×Int))) ⊕ Unit) (bif ((mget r8 v2.2.1).isSome) then some (.inl (((mget r8 v2.2.1).getD 0),v2.1,v2.2.1)) else (bif ((v2.1.length:Int) == 1500) then some (.inr ()) else (Option.bind (appI (α:=PosT) 88 v2.1 [({state:=r7.1,own:=true}:PosT)]) fun e4=>some (.inl ((v2.1.length:Int),e4,(mset r8 (v2.1.length:Int) v2.2.1)))))) (Sum.elim (fun (v3:Int×(List PosT)×(List (ByteArray×Int)))=>(Option.bind (appI (α:=MoveT) 16 v2.2.2 [({step:=(-1),to:=v3.1}:MoveT)]) fun e5=>some (.inl (v3.2.1,v3.2.2,e5)))) (fun (y4:Unit)=>some (.inr ()))))))) (Sum.elim (fun (v4:(List PosT)×(List (ByteArray×Int))×(List MoveT))=>(Option.bind (forR (σ:=(List PosT)×(List (ByteArray×Int))×(List MoveT)) (ρ:=(List PosT)×(List (ByteArray×Int))×(List MoveT)) (c.acts.length:Int) (fun i2 s2=>(Option.bind (α:=((List PosT)×(List (ByteArray×Int))×(List MoveT)) ⊕ Unit) (Option.bind (idxI c.acts (i2:Int)) fun e6=>(Option.bind (bif (e6.role == (-1)) then some (-1) else (Option.bind (idxI e1.state.holders e6.role) fun e7=>some e7)) fun (v5:Int)=>(bif ((v5 == party) == e1.own) then (Option.bind (e_Step c e1.state (i2:Int)) fun r9=>(Option.bind (d_SameS r9.1 e1.state) fun r10=>(bif r10 then some (.inl (s2.1,s2.2.1,s2.2.2)) else (Option.bind (e_text ({state:=r9.1,own:=true}:PosT)) fun r11=>(Option.bind (α:=(Int×(List PosT)×(List (ByteArray×Int))) ⊕ Unit) (bif ((mget r11 s2.2.1).isSome) then some (.inl (((mget r11 s2.2.1).getD 0),s2.1,s2.2.1)) else (bif ((s2.1.length:Int) == 1500) then some (.inr ()) else (Option.bind (appI (α:=PosT) 88 s2.1 [({state:=r9.1,own:=true}:PosT)]) fun e8=>some (.inl ((s2.1.length:Int),e8,(mset r11 (s2.1.length:Int) s2.2.1)))))) (Sum.elim (fun (v6:Int×(List PosT)×(List (ByteArray×Int)))=>(Option.bind (appI (α:=MoveT) 16 s2.2.2 [({step:=(i2:Int),to:=v6.1}:MoveT)]) fun e9=>some (.inl (v6.2.1,v6.2.2,e9)))) (fun (y6:Unit)=>some (.inr ())))))))) else some (.inl (s2.1,s2.2.1,s2.2.2))))) (Sum.elim (fun (v7:(List PosT)×(List (ByteArray×Int))×(List MoveT))=>some (.inl (v7.1,v7.2.1,v7.2.2))) (fun (y7:Unit)=>some (.inr (s2.1,s2.2.1,s2.2.2)))))) (v4.1,v4.2.1,v4.2.2)) (Sum.elim (fun (s2:(List PosT)×(List (ByteArray×Int))×(List MoveT))=>some (.inl (s2.1,s2.2.1,s2.2.2))) (fun (y8:(List PosT)×(List (ByteArray×Int))×(List MoveT))=>some (.inr ()))))) (fun (y5:Unit)=>some (.inr ()))))) (Sum.elim (fun (y2:Unit)=>some (.inr ())) (fun (y3:(List PosT)×(List (ByteArray×Int))×(List MoveT))=>some (.inl (y3.1,y3.2.1,y3.2.2)))))))) (Sum.elim (fun (v8:(List PosT)×(List (ByteArray×Int))×(List MoveT))=>(Option.bind (appI (α:=List MoveT) 24 s1.2.2.1 [v8.2.2]) fun e10=>some (.inl ((IntKind.i64.wrap (s1.1+1)),v8.1,e10,v8.2.1)))) (fun (y9:Unit)=>some (.inr (.inr ()))))) else some (.inr (.inl (s1.2.1,s1.2.2.1))))) 40 (0,[({state:=r2,own:=p.own}:PosT)],[],(mset r3 0 []))) (Sum.elim (fun (y10:(List PosT)×(List (List MoveT)))=>some (.inl (y10.1,y10.2))) (fun (y11:Unit)=>some (.inr ())))) (Sum.elim (fun (v9:(List PosT)×(List (List MoveT)))=>some (({party:=party,positions:=v9.1,moves:=v9.2}:ArenaT),0)) (fun (y12:Unit)=>some (({party:=0,positions:=[],moves:=[]}:ArenaT),3)))))) else some (({party:=0,positions:=[],moves:=[]}:ArenaT),1)))
theorem le_From (c:ContractT) (party:Int) (p:PosT):Le (e_From c party p) (d_From c party p):=by
  unfold e_From d_From
  repeat' (first | with_reducible exact Le.refl _ | with_reducible exact le_text _ | with_reducible exact le_Step _ _ _ | with_reducible refine Le.bind ?_ (fun _ => ?_) | with_reducible refine Le.cond _ ?_ ?_ | with_reducible refine Le.forR (fun _ _ => ?_) _ _ | with_reducible refine Le.iter (fun _ => ?_) _ _ | with_reducible refine Le.elim (fun _ => ?_) (fun _ => ?_) _)
noncomputable def e_Build (c:ContractT) (party:Int):Option (ArenaT×Int):=
  (Option.bind (e_Start c) fun r1=>(bif (r1.2 == 0) then (Option.bind (e_From c party ({state:=r1.1,own:=true}:PosT)) fun r2=>some (r2.1,r2.2)) else some (({party:=0,positions:=[],moves:=[]}:ArenaT),r1.2)))
theorem le_Build (c:ContractT) (party:Int):Le (e_Build c party) (d_Build c party):=by
  unfold e_Build d_Build
  repeat' (first | with_reducible exact Le.refl _ | with_reducible exact le_Start _ | with_reducible exact le_From _ _ _ | with_reducible refine Le.bind ?_ (fun _ => ?_) | with_reducible refine Le.cond _ ?_ ?_ | with_reducible refine Le.forR (fun _ _ => ?_) _ _ | with_reducible refine Le.iter (fun _ => ?_) _ _ | with_reducible refine Le.elim (fun _ => ?_) (fun _ => ?_) _)
noncomputable def e_Ranks (c:ContractT) (a:ArenaT):Option (List Int):=
  (Option.bind (d_wellFormed c a) fun r1=>(bif r1 then (Option.bind (mkN 8 (a.positions.length:Int)) fun k1=>(Option.bind (mkN 8 (a.positions.length:Int)) fun k2=>(Option.bind (mkN 24 (a.positions.length:Int)) fun k3=>(Option.bind (forR (σ:=(List Int)×(List Int)×(List (List Int))×(List Int)) (ρ:=Unit) (a.positions.length:Int) (fun i1 s1=>(Option.bind (Option.bind (idxI a.positions (i1:Int)) fun e1=>(Option.bind (idxI a.moves (i1:Int)) fun e2=>(Option.bind (idxN k1 (i1:Int)) fun k4=>(Option.bind (s1.1[k4]?) fun e3=>(Option.bind (idxN k2 (i1:Int)) fun k5=>(Option.bind (s1.2.1[k5]?) fun e4=>(Option.bind (idxI a.moves (i1:Int)) fun e5=>(Option.bind (forR (σ:=(List (List Int))) (ρ:=Unit) (e5.length:Int) (fun i2 s2=>(Option.bind (idxI e5 (i2:Int)) fun e6=>(Option.bind (nestApp s2 k3 e6.to (i1:Int)) fun v1=>some (.inl v1)))) s1.2.2.1) (Sum.elim (fun (s2:(List (List Int)))=>(Option.bind (d_lost c e1.state a.party) fun r2=>(bif r2 then (Option.bind (idxN k1 (i1:Int)) fun k6=>(Option.bind ((s1.1.set k4 (-1))[k6]?) fun e7=>(Option.bind (d_136b (i1:Int) s1.2.2.2 0) fun r3=>some (((s1.1.set k4 (-1)).set k6 0),(s1.2.1.set k5 (e2.length:Int)),s2,r3)))) else some ((s1.1.set k4 (-1)),(s1.2.1.set k5 (e2.length:Int)),s2,s1.2.2.2)))) (fun _=>none)))))))))) fun (v2:(List Int)×(List Int)×(List (List Int))×(List Int))=>some (.inl (v2.1,v2.2.1,v2.2.2.1,v2.2.2.2)))) ((List.replicate k1 0),(List.replicate k2 0),(List.replicate k3 []),[])) (Sum.elim (fun (s1:(List Int)×(List Int)×(List (List Int))×(List Int))=>(Option.bind (forR (σ:=(List Int)×(List Int)) (ρ:=Unit) (a.positions.length:Int) (fun i3 s3=>(Option.bind (Option.bind (idxI a.positions (i3:Int)) fun e8=>(Option.bind (bif e8.own then (Option.bind (idxN k2 (i3:Int)) fun k7=>(Option.bind (s1.2.1[k7]?) fun e9=>(bif (e9 == 0) then (Option.bind (idxN k1 (i3:Int)) fun k8=>(Option.bind (s3.1[k8]?) fun e10=>some (e10 == (-1)))) else some false))) else some false) fun v3=>(bif v3 then (Option.bind (d_134a (i3:Int) 1 s3.1 k1 s3.2 0) fun r4=>some (r4.2,r4.1)) else some (s3.1,s3.2)))) fun (v4:(List Int)×(List Int))=>some (.inl (v4.1,v4.2)))) (s1.1,s1.2.2.2)) (Sum.elim (fun (s3:(List Int)×(List Int))=>(Option.bind (Option.bind (d_137a s3.2 0) fun r5=>(Option.bind (iterN (σ:=Int×Bool×(List Int)×(List Int)×(List Int)×Int) (ρ:=(List Int)) (fun s4=>(bif s4.2.1 then (Option.bind (idxN k3 s4.1) fun k9=>(Option.bind (s1.2.2.1[k9]?) fun e11=>(Option.bind (forR (σ:=(List Int)×(List Int)×(List Int)) (ρ:=Unit) (e11.length:Int) (fun i5 s5=>(Option.bind (idxI e11 (i5:Int)) fun e12=>(Option.bind (d_135a e12 s4.1 s5.2.1 k2 s5.1 k1 a s5.2.2 s4.2.2.2.2.2) fun r6=>some (.inl (r6.2.1,r6.1,r6.2.2))))) (s4.2.2.1,s4.2.2.2.1,s4.2.2.2.2.1)) (Sum.elim (fun (s5:(List Int)×(List Int)×(List Int))=>(Option.bind (d_137a s5.2.2 s4.2.2.2.2.2) fun r7=>some (.inl (r7.1,r7.2.1,s5.1,s5.2.1,s5.2.2,r7.2.2)))) (fun _=>none))))) else some (.inr s4.2.2.1))) 40 (r5.1,r5.2.1,s3.1,s1.2.1,s3.2,r5.2.2)) (fun (y1:(List Int))=>some y1))) fun (v5:(List Int))=>(Option.bind (eqN k1 v5.length) fun g1=>some v5))) (fun _=>none)))) (fun _=>none)))))) else some []))
theorem le_Ranks (c:ContractT) (a:ArenaT):Le (e_Ranks c a) (d_Ranks c a):=by
  unfold e_Ranks d_Ranks
  repeat' (first | with_reducible exact Le.refl _ | with_reducible refine Le.bind ?_ (fun _ => ?_) | with_reducible refine Le.cond _ ?_ ?_ | with_reducible refine Le.forR (fun _ _ => ?_) _ _ | with_reducible refine Le.iter (fun _ => ?_) _ _ | with_reducible refine Le.elim (fun _ => ?_) (fun _ => ?_) _)
noncomputable def e_Safe (c:ContractT) (a:ArenaT):Option (List Bool):=
  (Option.bind (e_Ranks c a) fun r1=>(Option.bind (mkN 1 (r1.length:Int)) fun k1=>(Option.bind (forR (σ:=(List Bool)) (ρ:=Unit) (r1.length:Int) (fun i1 s1=>(Option.bind (idxI r1 (i1:Int)) fun e1=>(Option.bind (idxN k1 (i1:Int)) fun k2=>(Option.bind (s1[k2]?) fun e2=>some (.inl (s1.set k2 (e1 == (-1)))))))) (List.replicate k1 false)) (Sum.elim (fun (s1:(List Bool))=>(Option.bind (eqN k1 s1.length) fun g1=>some s1)) (fun _=>none)))))
theorem le_Safe (c:ContractT) (a:ArenaT):Le (e_Safe c a) (d_Safe c a):=by
  unfold e_Safe d_Safe
  repeat' (first | with_reducible exact Le.refl _ | with_reducible exact le_Ranks _ _ | with_reducible refine Le.bind ?_ (fun _ => ?_) | with_reducible refine Le.cond _ ?_ ?_ | with_reducible refine Le.forR (fun _ _ => ?_) _ _ | with_reducible refine Le.iter (fun _ => ?_) _ _ | with_reducible refine Le.elim (fun _ => ?_) (fun _ => ?_) _)
end Go.Proofs.YtjkljacdbljkpaaDoor
namespace Go.Proofs.YtjkljacdbljkpaaDoor
set_option linter.unusedVariables false
set_option linter.unusedSimpArgs false
set_option maxRecDepth 100000
noncomputable def e_wait (c:ContractT) (a:ArenaT) (safe:List Bool):Option (Int):=
  (Option.bind (α:=Unit ⊕ Int) (Option.bind (iterN (σ:=Int×Int) (ρ:=Unit ⊕ Int) (fun s1=>(Option.bind (idxI a.positions s1.2) fun e1=>(bif decide (e1.state.day < c.days) then (Option.bind (d_targetS a s1.2 (-2)) fun r1=>(Option.bind (d_targetS a r1.1 (-1)) fun r2=>(Option.bind (idxI safe r2.1) fun e2=>(bif e2 then some (.inl ((IntKind.i64.wrap (s1.1+1)),r2.1)) else some (.inr (.inr s1.1)))))) else some (.inr (.inl ()))))) 40 (0,0)) (Sum.elim (fun (y1:Unit)=>some (.inl ())) (fun (y2:Int)=>some (.inr y2)))) (Sum.elim (fun (v1:Unit)=>some (-1)) (fun (y3:Int)=>some y3)))
theorem le_wait (c:ContractT) (a:ArenaT) (safe:List Bool):Le (e_wait c a safe) (d_wait c a safe):=by
  unfold e_wait d_wait
  repeat' (first | with_reducible exact Le.refl _ | with_reducible refine Le.bind ?_ (fun _ => ?_) | with_reducible refine Le.cond _ ?_ ?_ | with_reducible refine Le.forR (fun _ _ => ?_) _ _ | with_reducible refine Le.iter (fun _ => ?_) _ _ | with_reducible refine Le.elim (fun _ => ?_) (fun _ => ?_) _)
noncomputable def e_Advise (c:ContractT) (party:Int) (s:StateT):Option (AdviceT×Int):=
  (Option.bind (e_From c party ({state:=s,own:=true}:PosT)) fun r1=>(bif (r1.2 == 0) then (Option.bind (e_Safe c r1.1) fun r2=>(Option.bind (idxI r2 0) fun e1=>(bif e1 then (Option.bind (d_advised r1.1 r2) fun r3=>(Option.bind (idxI r3 0) fun e2=>(Option.bind (e_wait c r1.1 r2) fun r4=>some (({safe:=true,move:=e2,wait:=r4}:AdviceT),0)))) else some (({safe:=false,move:=(-2),wait:=0}:AdviceT),0)))) else some (({safe:=false,move:=0,wait:=0}:AdviceT),r1.2)))
theorem le_Advise (c:ContractT) (party:Int) (s:StateT):Le (e_Advise c party s) (d_Advise c party s):=by
  unfold e_Advise d_Advise
  repeat' (first | with_reducible exact Le.refl _ | with_reducible exact le_From _ _ _ | with_reducible exact le_Safe _ _ | with_reducible exact le_wait _ _ _ | with_reducible refine Le.bind ?_ (fun _ => ?_) | with_reducible refine Le.cond _ ?_ ?_ | with_reducible refine Le.forR (fun _ _ => ?_) _ _ | with_reducible refine Le.iter (fun _ => ?_) _ _ | with_reducible refine Le.elim (fun _ => ?_) (fun _ => ?_) _)
noncomputable def e_154b (p1:ContractT) (p2:Int) (p3:List Int):Option ((List Int)×Int):=
  (Option.bind (e_Build p1 p2) fun r1=>(bif (r1.2 == 1) then some ([],1) else (Option.bind (forR (σ:=Unit) (ρ:=Unit) (p3.length:Int) (fun i1 s1=>(Option.bind (idxN p3.length (i1:Int)) fun k1=>(Option.bind (p3[k1]?) fun e1=>(Option.bind (bif decide (e1 < (-1)) then some true else some (decide ((p1.acts.length:Int)≤e1))) fun v1=>(bif v1 then some (.inr ()) else some (.inl ())))))) ()) (Sum.elim (fun (s1:Unit)=>(Option.bind (bif (r1.2 == 0) then some (decide (4000 < (p3.length:Int))) else some true) fun v2=>(bif v2 then some ([],3) else (Option.bind (e_Safe p1 r1.1) fun r2=>(Option.bind (d_advised r1.1 r2) fun r3=>(Option.bind (α:=(List Int) ⊕ Unit) (Option.bind (forR (σ:=(List Int)×Int) (ρ:=(List Int) ⊕ Unit) (p3.length:Int) (fun i2 s2=>(Option.bind (idxN p3.length (i2:Int)) fun k2=>(Option.bind (p3[k2]?) fun e2=>(Option.bind (idxI r1.1.positions s2.2) fun e3=>(bif (e3.state.day == p1.days) then some (.inr (.inl s2.1)) else (Option.bind (Option.bind (iterN (σ:=(List Int)×Int) (ρ:=(List Int)×Int) (fun s3=>(Option.bind (Option.bind (idxI r3 s3.2) fun e4=>(bif (e4 == (-2)) then some false else some (decide ((s3.1.length:Int)≤4000)))) fun v3=>(bif v3 then (Option.bind (idxI r3 s3.2) fun e5=>(Option.bind (d_155b e5 s3.1 s3.2 p1 r1.1 p2) fun r4=>some (.inl (r4.1,r4.2)))) else some (.inr (s3.1,s3.2))))) 40 (s2.1,s2.2)) (fun (y2:(List Int)×Int)=>some (y2.1,y2.2))) fun (v4:(List Int)×Int)=>(Option.bind (Option.bind (idxI r1.1.positions v4.2) fun e6=>(Option.bind (d_doerS p1 e6.state e2) fun r5=>(bif (r5 == p2) then some (v4.1,v4.2) else (Option.bind (d_155b e2 v4.1 v4.2 p1 r1.1 p2) fun r6=>some (r6.1,r6.2))))) fun (v5:(List Int)×Int)=>(bif decide (4000 < (v5.1.length:Int)) then some (.inr (.inr ())) else some (.inl (v5.1,v5.2)))))))))) ([],0)) (Sum.elim (fun (s2:(List Int)×Int)=>some (.inl s2.1)) (Sum.elim (fun (y3:(List Int))=>some (.inl y3)) (fun (y4:Unit)=>some (.inr ()))))) (Sum.elim (fun (v6:(List Int))=>some (v6,0)) (fun (y5:Unit)=>some ([],3))))))))) (fun (y1:Unit)=>some ([],1))))))
theorem le_154b (p1:ContractT) (p2:Int) (p3:List Int):Le (e_154b p1 p2 p3) (d_154b p1 p2 p3):=by
  unfold e_154b d_154b
  repeat' (first | with_reducible exact Le.refl _ | with_reducible exact le_Build _ _ | with_reducible exact le_Safe _ _ | with_reducible refine Le.bind ?_ (fun _ => ?_) | with_reducible refine Le.cond _ ?_ ?_ | with_reducible refine Le.forR (fun _ _ => ?_) _ _ | with_reducible refine Le.iter (fun _ => ?_) _ _ | with_reducible refine Le.elim (fun _ => ?_) (fun _ => ?_) _)
noncomputable def e_head20:Option (Bool):=
  (Option.bind (d_example20) fun r1=>(Option.bind (e_Start r1) fun r2=>(Option.bind (e_Step r1 r2.1 (-1)) fun r3=>(Option.bind (e_Step r1 r3.1 (-1)) fun r4=>(Option.bind (e_Advise r1 0 r2.1) fun r5=>(Option.bind (e_Advise r1 0 r3.1) fun r6=>(Option.bind (e_Advise r1 1 r2.1) fun r7=>(Option.bind (e_Advise r1 0 r4.1) fun r8=>(Option.bind (e_154b r1 0 [(-1),1,(-1),0]) fun r9=>(Option.bind (e_154b r1 0 [2]) fun r10=>(Option.bind (e_Advise r1 2 r2.1) fun r11=>(Option.bind (bif (r2.2 == 0) then (bif (r3.2 == 0) then (bif (r4.2 == 0) then (bif (r5.2 == 0) then (bif ((r5.1.safe == true)&&((r5.1.move == (-2))&&((r5.1.wait == 1)&&true))) then (bif (r6.2 == 0) then some ((r6.1.safe == true)&&((r6.1.move == 0)&&((r6.1.wait == 0)&&true))) else some false) else some false) else some false) else some false) else some false) else some false) fun v1=>(Option.bind (bif (r7.2 == 0) then (bif ((r7.1.safe == true)&&((r7.1.move == (-2))&&((r7.1.wait == (-1))&&true))) then (bif (r8.2 == 0) then some ((r8.1.safe == false)&&((r8.1.move == (-2))&&((r8.1.wait == 0)&&true))) else some false) else some false) else some false) fun v2=>(Option.bind (bif v1 then (bif v2 then (bif (r9.2 == 0) then (Option.bind (d_Ints18 r9.1 [(-1),0,1,(-1)]) fun r12=>(bif r12 then (bif (r10.2 == 1) then some (r11.2 == 1) else some false) else some false)) else some false) else some false) else some false) fun v3=>some v3))))))))))))))
theorem le_head20:Le e_head20 d_head20:=by
  unfold e_head20 d_head20
  repeat' (first | with_reducible exact Le.refl _ | with_reducible exact le_Start _ | with_reducible exact le_Step _ _ _ | with_reducible exact le_Advise _ _ _ | with_reducible exact le_154b _ _ _ | with_reducible refine Le.bind ?_ (fun _ => ?_) | with_reducible refine Le.cond _ ?_ ?_ | with_reducible refine Le.elim (fun _ => ?_) (fun _ => ?_) _)
theorem s_head20:d_head20=some true:=le_head20 true (by kernel_rfl)
end Go.Proofs.YtjkljacdbljkpaaDoor
namespace Go.Proofs.YtjkljacdbljkpaaDoor
open Go.RowKit
set_option linter.unusedVariables false
set_option linter.unusedSimpArgs false
set_option maxRecDepth 100000
section
variable {c:ContractT} {party:Int} {p:PosT} {a:ArenaT}
theorem all_true {f:Nat→Unit→Option (Unit ⊕ Unit)} {n:Nat} (hn:n < 4611686018427387904) (h:∀ j,j < n→f j ()=some (.inl ())):forR (n:Int) f ()=some (.inl ()):=by
  rw [forR_allN (fun _=>true) hn (fun j hj=>h j hj)]
  rw [List.all_eq_true.2 fun _ _=>rfl];rfl
theorem adv_own {q:PosT} (ho:q.own=true) (hs:safeB c party q=true):advM c party q∈movesL c party q∧safeB c party (target c q (advM c party q))=true∧∀ m∈movesL c party q,safeB c party (target c q m)=true→advM c party q≤m:=by
  obtain ⟨_,m0,hm0,hs0⟩:=(safe_own ho).1 (safeB_iff.1 hs)
  have hadv:advM c party q=((movesL c party q).find? fun m=>safeB c party (target c q m)).getD (-2):=by unfold advM;rw [ho,hs];rfl
  cases hf:(movesL c party q).find? (fun m=>safeB c party (target c q m)) with
  | none=>
    have:=List.find?_eq_none.1 hf m0 hm0
    rw [safeB_iff.2 hs0] at this
    exact absurd rfl this
  | some x=>
    rw [hf] at hadv
    have hadv:advM c party q=x:=hadv
    obtain ⟨h1,i,hi,h2,h3⟩:=List.find?_eq_some_iff_getElem.1 hf
    rw [hadv]
    refine ⟨by rw [←h2];exact List.getElem_mem hi,h1,fun m hm hsm => ?_⟩
    obtain ⟨j,hj,rfl⟩:=List.getElem_of_mem hm
    by_cases e:j < i
    · have:=h3 j e
      rw [hsm] at this;cases this
    · by_cases e2:j=i
      · subst e2;omega
      · have:=List.pairwise_iff_getElem.1 (moves_inc c party q) i j hi hj (by omega)
        omega
end
end Go.Proofs.YtjkljacdbljkpaaDoor
namespace Go.Proofs.YtjkljacdbljkpaaDoor
open Go.RowKit
set_option linter.unusedVariables false
set_option linter.unusedSimpArgs false
set_option maxRecDepth 100000
inductive Adv (c:ContractT) (party:Int) (s0:StateT):List Int→List Int→Prop where
  | stop {l:List Int} (h:advM c party (atO (stF c s0 l)) = -2):Adv c party s0 l l
  | go {l l2:List Int} (h:advM c party (atO (stF c s0 l)) ≠ -2) (t:Adv c party s0 (l++[advM c party (atO (stF c s0 l))]) l2):Adv c party s0 l l2
inductive Fw (c:ContractT) (party:Int) (s0:StateT):List Int→List Int→List Int→Prop where
  | done {l:List Int}:Fw c party s0 [] l l
  | stop {o:Int} {os l:List Int} (h:(stF c s0 l).day=c.days):Fw c party s0 (o::os) l l
  | own {o:Int} {os l l1 l2:List Int} (h:(stF c s0 l).day≠c.days) (ha:Adv c party s0 l l1) (hd:doerF c (stF c s0 l1) o=party) (t:Fw c party s0 os l1 l2):Fw c party s0 (o::os) l l2
  | oth {o:Int} {os l l1 l2:List Int} (h:(stF c s0 l).day≠c.days) (ha:Adv c party s0 l l1) (hd:doerF c (stF c s0 l1) o≠party) (t:Fw c party s0 os (l1++[o]) l2):Fw c party s0 (o::os) l l2
section
variable {c:ContractT} {party:Int} {s0:StateT} {a:ArenaT}
theorem adv_act (hc:c.Ok) {s:StateT} (hv:VS c s) (h:advM c party (atO s) ≠ -2):0≤advM c party (atO s)∧advM c party (atO s) < c.acts.length∧s.day < c.days∧safeB c party (atO s)=true∧safeB c party (atO (stepS c s (advM c party (atO s))))=true∧(stepS c s (advM c party (atO s))).day=s.day:=by
  have hs:safeB c party (atO s)=true:=by
    cases e:safeB c party (atO s) with
    | true=>rfl
    | false=>exact absurd (by unfold advM;rw [e,Bool.and_false];rfl) h
  obtain ⟨h1,h2,_⟩:=adv_own (c:=c) (party:=party) (q:=atO s) rfl hs
  generalize advM c party (atO s)=x at *
  rcases mem_moves.1 h1 with ⟨_,e⟩ | ⟨_,e,_⟩ | ⟨hd,i,hi,_,e⟩
  · exact absurd e h
  · cases e
  · subst e
    rw [target_step c _ (by omega)] at h2
    have hd:s.day < c.days:=hd
    refine ⟨by omega,by omega,hd,hs,h2,?_⟩
    obtain ⟨_,_,_,ha⟩:=step_ok hc hv (a:=(i:Int)) (by omega) (by omega) hd
    rcases ha i c.acts[i] rfl (List.getElem?_eq_getElem hi) with ⟨_,_,e⟩ | ⟨_,e,_⟩
    · rw [e]
    · exact e
abbrev Any (s:StateT):Prop:=True
theorem follow_ret (hc:c.Ok) (party:Int) (others:List Int) (hol:others.length < 4611686018427387904):Ret (d_Follow c party others) (fun r=>(r.2≠0∧r.1=[])∨(r.2=0∧∃ s0 a,d_Start c=some (s0,0)∧d_Build c party=some (a,0)∧ArOk c party (atO s0) a∧VS c s0∧TrOk c Any s0 r.1∧Fw c party s0 others [] r.1∧r.1.length≤4000∧∀ x∈others,-1≤x∧x < c.acts.length)):=by
  unfold d_Follow
  obtain ⟨⟨a,e⟩,hB,hR⟩:=build_r hc party
  refine Ret.bindE hB ?_
  refine Ret.ite (fun _=>Ret.some (.inl ⟨by simp,rfl⟩)) (fun he1 => ?_)
  refine Ret.bind (P:=fun o:Unit ⊕ Unit=>o=.inr ()∨(o=.inl ()∧∀ x∈others,-1≤x∧x < c.acts.length)) (Ret.forL (fun i _=>∀ (j:Nat) (hj:j < others.length),j < i → -1≤others[j]∧others[j] < c.acts.length) hol (fun j _ h=>by omega) (fun i _ hi h => ?_) (fun _ h=>.inr ⟨rfl,fun x hx=>by obtain ⟨j,hj,rfl⟩:=List.getElem_of_mem hx;exact h j hj hj⟩)) ?_
  · refine Ret.bindE (idxI_at (List.getElem?_eq_getElem hi)) ?_
    refine Ret.bindE (v:=(decide (others[i] < -1)||decide ((c.acts.length:Int)≤others[i]))) (by cases decide (others[i] < -1)<;>rfl) ?_
    refine Ret.ite (fun _=>Ret.some (.inl rfl)) (fun hq=>Ret.some fun j hj hji => ?_)
    simp only [Bool.or_eq_false_iff,decide_eq_false_iff_not] at hq
    by_cases e2:j=i
    · subst e2;omega
    · exact h j hj (by omega)
  rintro _ (rfl | ⟨rfl,hoth⟩)
  · exact Ret.some (.inl ⟨by simp,rfl⟩)
  simp only [Sum.elim_inl]
  rcases hR with ⟨he,_⟩ | ⟨he,s0,hst,hv0,A⟩
  · simp only at he
    refine Ret.bindE (v:=true) (by rw [show (((a,e):ArenaT×Int).2 == 0)=false from beq_eq_false_iff_ne.2 he];rfl) ?_
    exact Ret.ite (fun _=>Ret.some (.inl ⟨by simp,rfl⟩)) (fun h=>by cases h)
  simp only at he A
  subst he
  refine Ret.bindE (v:=decide (4000 < (others.length:Int))) rfl ?_
  refine Ret.ite (fun _=>Ret.some (.inl ⟨by simp,rfl⟩)) (fun _ => ?_)
  refine Ret.bindE (safe_ret hc A) ?_
  refine Ret.bindE (advised_ret hc A) ?_
  have hadvI:∀ (j:Nat) (hj:j < a.positions.length),idxI (a.positions.map (advM c party)) (j:Int)=some (advM c party a.positions[j]):=fun j hj=>idxI_at (by rw [List.getElem?_map,List.getElem?_eq_getElem hj];rfl)
  have hp:=A.pos
  have hpos0:a.positions[0]=atO s0:=by have:=A.F.first;rw [List.getElem?_eq_getElem hp] at this;exact Option.some.inj this
  refine Ret.bind (P:=fun o:List Int ⊕ Unit=>(∃ l,o=.inl l∧TrOk c Any s0 l∧Fw c party s0 others [] l∧l.length≤4000)∨o=.inr ()) ?_ ?_
  · refine Ret.bind (P:=fun o:(List Int×Int) ⊕ (List Int ⊕ Unit)=>(∃ x,o=.inl x∧TrOk c Any s0 x.1∧Fw c party s0 others [] x.1∧x.1.length≤4000)∨(∃ l,o=.inr (.inl l)∧TrOk c Any s0 l∧Fw c party s0 others [] l∧l.length≤4000)∨o=.inr (.inr ()))
      (Ret.forL (fun i x=>TrOk c Any s0 x.1∧x.1.length≤4000∧(∃ j,∃ hj:j < a.positions.length,x.2=(j:Int)∧a.positions[j]=atO (stF c s0 x.1))∧∀ l2,Fw c party s0 (others.drop i) x.1 l2→Fw c party s0 others [] l2) hol
        ⟨.nil trivial,by simp,⟨0,hp,rfl,hpos0⟩,fun l2 h=>h⟩ (fun i x hi hx => ?_) (fun x hx => ?_)) ?_
    · obtain ⟨l,at0⟩:=x
      obtain ⟨ht,hl,⟨j,hj,hat,hpj⟩,hfw⟩:=hx
      simp only at ht hl hat hpj hfw ⊢
      subst hat
      have hdrop:others.drop i=others[i]::others.drop (i+1):=List.drop_eq_getElem_cons hi
      have hvl:=ht.vsl hc hv0
      refine Ret.bindE (idxI_at (List.getElem?_eq_getElem hi)) ?_
      refine Ret.bindE (idxI_at (List.getElem?_eq_getElem hj)) ?_
      rw [hpj]
      refine Ret.ite (fun h => ?_) (fun h => ?_)
      · have hday:(stF c s0 l).day=c.days:=by simpa [atO] using h
        exact Ret.some (.inr (.inl ⟨l,rfl,ht,hfw l (by rw [hdrop];exact .stop hday),hl⟩))
      have hday:(stF c s0 l).day≠c.days:=by
        intro e
        have h:((stF c s0 l).day == c.days)=false:=h
        rw [e,beq_self_eq_true] at h;cases h
      have hdlt:(stF c s0 l).day < c.days:=by have:=hvl.day;omega
      refine Ret.bind (P:=fun v:List Int×Int=>TrOk c Any s0 v.1∧v.1.length≤4001∧(∃ j,∃ hj:j < a.positions.length,v.2=(j:Int)∧a.positions[j]=atO (stF c s0 v.1))∧(stF c s0 v.1).day < c.days∧(Adv c party s0 l v.1∨4000 < v.1.length)) ?_ ?_
      · refine Ret.bind (P:=fun v:List Int×Int=>TrOk c Any s0 v.1∧v.1.length≤4001∧(∃ j,∃ hj:j < a.positions.length,v.2=(j:Int)∧a.positions[j]=atO (stF c s0 v.1))∧(stF c s0 v.1).day < c.days∧(Adv c party s0 l v.1∨4000 < v.1.length))
          (Ret.iter (fun v:List Int×Int=>TrOk c Any s0 v.1∧v.1.length≤4001∧(∃ j,∃ hj:j < a.positions.length,v.2=(j:Int)∧a.positions[j]=atO (stF c s0 v.1))∧(stF c s0 v.1).day < c.days∧∀ l2,Adv c party s0 v.1 l2→Adv c party s0 l l2) (fun v=>5000 - v.1.length)
            ⟨ht,by show l.length≤4001;omega,⟨j,hj,rfl,hpj⟩,hdlt,fun l2 h=>h⟩ (fun v hv => ?_)) (fun v hv=>Ret.some hv)
        obtain ⟨l1,at1⟩:=v
        obtain ⟨ht1,hl1,⟨j1,hj1,hat1,hpj1⟩,hd1,hadv⟩:=hv
        simp only at ht1 hl1 hat1 hpj1 hd1 hadv ⊢
        subst hat1
        have hv1:=ht1.vsl hc hv0
        have hI:=hadvI j1 hj1
        rw [hpj1] at hI
        refine Ret.bindE (v:=(!(advM c party (atO (stF c s0 l1)) == -2)&&decide ((l1.length:Int)≤4000))) ?_ ?_
        · rw [hI]
          simp only [Option.bind_some]
          cases (advM c party (atO (stF c s0 l1)) == -2)<;>rfl
        refine Ret.ite (fun hq => ?_) (fun hq=>Ret.some ⟨ht1,hl1,⟨j1,hj1,rfl,hpj1⟩,hd1,?_⟩)
        · simp only [Bool.and_eq_true,Bool.not_eq_true',beq_eq_false_iff_ne,decide_eq_true_eq] at hq
          obtain ⟨b0,b1,_,_,_,b2⟩:=adv_act hc hv1 hq.1
          refine Ret.bindE hI ?_
          refine Ret.bind (do_ret hc A hj1 hpj1 hd1 (by omega) b1 (by omega)) ?_
          rintro ⟨l3,at3⟩ ⟨g1,j3,hj3,g2,g3⟩
          simp only at g1 g2 g3
          subst g1 g2
          refine Ret.some ⟨⟨ht1.snoc hd1 (by omega) b1 trivial,by show (l1++[_]).length≤4001;simp;omega,⟨j3,hj3,rfl,by rw [stF_snoc];exact g3⟩,by rw [stF_snoc,b2];exact hd1,fun l2 h=>hadv l2 (.go hq.1 h)⟩,by show 5000 - (l1++[_]).length < 5000 - l1.length;simp;omega⟩
        · by_cases e:advM c party (atO (stF c s0 l1)) = -2
          · exact .inl (hadv l1 (.stop e))
          · right
            rw [beq_eq_false_iff_ne.2 e] at hq
            have:¬ ((l1.length:Int)≤4000):=fun h=>by rw [decide_eq_true h] at hq;cases hq
            show 4000 < l1.length
            omega
      rintro ⟨l1,at1⟩ ⟨ht1,hl1,⟨j1,hj1,hat1,hpj1⟩,hd1,hadv⟩
      simp only at ht1 hl1 hat1 hpj1 hd1 hadv ⊢
      subst hat1
      have hv1:=ht1.vsl hc hv0
      have ho:=hoth _ (List.getElem_mem hi)
      refine Ret.bind (P:=fun v:List Int×Int=>TrOk c Any s0 v.1∧(∃ j,∃ hj:j < a.positions.length,v.2=(j:Int)∧a.positions[j]=atO (stF c s0 v.1))∧(4000 < v.1.length∨∀ l2,Fw c party s0 (others.drop (i+1)) v.1 l2→Fw c party s0 (others.drop i) l l2)) ?_ ?_
      · refine Ret.bindE (idxI_at (List.getElem?_eq_getElem hj1)) ?_
        rw [hpj1]
        refine Ret.bindE (doerS_ret hv1 ho.1 ho.2) ?_
        refine Ret.ite (fun hq=>Ret.some ⟨ht1,⟨j1,hj1,rfl,hpj1⟩,?_⟩) (fun hq => ?_)
        · rcases hadv with h | h
          · exact .inr fun l2 h2=>by rw [hdrop];exact .own hday h (by simpa using hq) h2
          · exact .inl h
        · refine Ret.bind (do_ret hc A hj1 hpj1 hd1 ho.1 ho.2 (by omega)) ?_
          rintro ⟨l3,at3⟩ ⟨g1,j3,hj3,g2,g3⟩
          simp only at g1 g2 g3
          subst g1 g2
          refine Ret.some ⟨ht1.snoc hd1 ho.1 ho.2 trivial,⟨j3,hj3,rfl,by rw [stF_snoc];exact g3⟩,?_⟩
          rcases hadv with h | h
          · exact .inr fun l2 h2=>by rw [hdrop];exact .oth hday h (by simpa using hq) h2
          · exact .inl (by show 4000 < (l1++[_]).length;simp;omega)
      rintro ⟨l2,at2⟩ ⟨ht2,hp2,hcont⟩
      simp only at ht2 hp2 hcont ⊢
      refine Ret.ite (fun _=>Ret.some (.inr (.inr rfl))) (fun hq => ?_)
      have hq:=of_decide_eq_false hq
      refine Ret.some ⟨ht2,by show l2.length≤4000;omega,hp2,fun l4 h4=>hfw l4 ?_⟩
      rcases hcont with h | h
      · omega
      · exact h l4 h4
    · obtain ⟨ht,hl,_,hfw⟩:=hx
      refine .inl ⟨x,rfl,ht,hfw x.1 ?_,hl⟩
      rw [List.drop_length];exact .done
    · rintro _ (⟨x,rfl,h⟩ | ⟨l,rfl,h⟩ | rfl)
      · exact Ret.some (.inl ⟨x.1,rfl,h⟩)
      · exact Ret.some (.inl ⟨l,rfl,h⟩)
      · exact Ret.some (.inr rfl)
  · rintro _ (⟨l,rfl,h1,h2,h3⟩ | rfl)
    · exact Ret.some (.inr ⟨rfl,s0,a,hst,hB,A,hv0,h1,h2,h3,hoth⟩)
    · exact Ret.some (.inl ⟨by simp,rfl⟩)
end
end Go.Proofs.YtjkljacdbljkpaaDoor
namespace Go.Proofs.YtjkljacdbljkpaaDoor
open Go.RowKit
set_option linter.unusedVariables false
set_option linter.unusedSimpArgs false
set_option maxRecDepth 100000
section
variable {c:ContractT} {party:Int} {s0:StateT} {a:ArenaT}
end
theorem ok20_ret {c:ContractT} (hc:c.Ok) (l:List Int):Ret (d_ok20 c l) (fun _=>True):=by
  unfold d_ok20
  refine Ret.bind (P:=fun _:Bool=>True) ?_ (fun v _=>Ret.some trivial)
  refine Ret.bindE (s_Tame hc) ?_
  exact Ret.ite (fun _=>Ret.some trivial) (fun _=>Ret.some trivial)
end Go.Proofs.YtjkljacdbljkpaaDoor
namespace Go.Proofs.YtjkljacdbljkpaaDoor
open Go.RowKit
set_option linter.unusedVariables false
set_option linter.unusedSimpArgs false
set_option maxRecDepth 100000
section
variable {c:ContractT} {party:Int} {s0:StateT}
theorem Adv.pre {l l1:List Int} (h:Adv c party s0 l l1):l <+: l1:=by
  induction h with
  | stop _=>exact List.prefix_rfl
  | go _ _ ih=>exact (List.prefix_append _ _).trans ih
theorem Fw.pre {os l L:List Int} (h:Fw c party s0 os l L):l <+: L:=by
  induction h with
  | done=>exact List.prefix_rfl
  | stop _=>exact List.prefix_rfl
  | own _ ha _ _ ih=>exact ha.pre.trans ih
  | oth _ ha _ _ ih=>exact ha.pre.trans ((List.prefix_append _ _).trans ih)
theorem Fw.next (hc:c.Ok) (hv0:VS c s0) {os l L:List Int} (h:Fw c party s0 os l L):VS c (stF c s0 l)→l.length < L.length →
    (advM c party (atO (stF c s0 l)) ≠ -2∧l++[advM c party (atO (stF c s0 l))] <+: L∧Fw c party s0 os (l++[advM c party (atO (stF c s0 l))]) L) ∨
    (∃ sk o os2,os=sk++o::os2∧(∀ x∈sk,doerF c (stF c s0 l) x=party)∧advM c party (atO (stF c s0 l)) = -2∧doerF c (stF c s0 l) o≠party∧l++[o] <+: L∧Fw c party s0 os2 (l++[o]) L):=by
  induction h with
  | done=>intro _ h;omega
  | stop _=>intro _ h;omega
  | own hd ha hp t ih=>
    intro hv hlen
    rename_i o os l l1 L
    cases ha with
    | stop h=>
      rcases ih hv hlen with ⟨h1,_⟩ | ⟨sk,o2,os2,g1,g2,g3,g4,g5,g6⟩
      · exact absurd h h1
      · exact .inr ⟨o::sk,o2,os2,by rw [g1];rfl,fun x hx=>by
          rcases List.mem_cons.1 hx with e | hx
          · rw [e];exact hp
          · exact g2 x hx,g3,g4,g5,g6⟩
    | go h t2=>
      have hday:=(adv_act hc hv h).2.2.2.2.2
      exact .inl ⟨h,t2.pre.trans t.pre,.own (by rw [stF_snoc,hday];exact hd) t2 hp t⟩
  | oth hd ha hp t ih=>
    intro hv hlen
    rename_i o os l l1 L
    cases ha with
    | stop h=>exact .inr ⟨[],o,os,rfl,fun x hx=>(by cases hx),h,hp,t.pre,t⟩
    | go h t2=>
      have hday:=(adv_act hc hv h).2.2.2.2.2
      exact .inl ⟨h,t2.pre.trans ((List.prefix_append _ _).trans t.pre),.oth (by rw [stF_snoc,hday];exact hd) t2 hp t⟩
theorem Fw.tail {os l L:List Int} (h:Fw c party s0 os l L):L.length≤l.length→(stF c s0 l).day=c.days∨∀ x∈os,doerF c (stF c s0 l) x=party:=by
  induction h with
  | done=>exact fun _=>.inr fun x hx=>(by cases hx)
  | stop h=>exact fun _=>.inl h
  | own hd ha hp t ih=>
    intro hlen
    rename_i o os l l1 L
    have e1:=ha.pre.length_le
    have e2:=t.pre.length_le
    have e:l=l1:=ha.pre.eq_of_length (by omega)
    subst e
    rcases ih hlen with h | h
    · exact .inl h
    · exact .inr fun x hx=>by
        rcases List.mem_cons.1 hx with e | hx
        · rw [e];exact hp
        · exact h x hx
  | oth hd ha hp t ih=>
    intro hlen
    rename_i o os l l1 L
    have e1:=ha.pre.length_le
    have e2:=t.pre.length_le
    rw [List.length_append] at e2
    simp only [List.length_cons,List.length_nil] at e2
    omega
theorem pre_take {l L:List Int} (h:l <+: L):l=L.take l.length:=(List.prefix_iff_eq_take.1 h)
theorem pre_snoc {l L:List Int} {x:Int} (h:l++[x] <+: L):∃ hk:l.length < L.length,L[l.length]=x∧L.take (l.length+1)=l++[x]:=by
  have h1:=h.length_le
  rw [List.length_append] at h1
  simp only [List.length_cons,List.length_nil] at h1
  have hk:l.length < L.length:=by omega
  have h2:=pre_take h
  rw [List.length_append] at h2
  simp only [List.length_cons,List.length_nil] at h2
  refine ⟨hk,?_,h2.symm⟩
  obtain ⟨t,rfl⟩:=h
  simp
theorem adv_doer {s:StateT} (h:advM c party (atO s) ≠ -2):doerF c s (advM c party (atO s))=party:=by
  have hs:safeB c party (atO s)=true:=by
    cases e:safeB c party (atO s) with
    | true=>rfl
    | false=>exact absurd (by unfold advM;rw [e,Bool.and_false];rfl) h
  obtain ⟨h1,_,_⟩:=adv_own (c:=c) (party:=party) (q:=atO s) rfl hs
  generalize advM c party (atO s)=x at *
  rcases mem_moves.1 h1 with ⟨_,e⟩ | ⟨_,e,_⟩ | ⟨hd,i,hi,hb,e⟩
  · exact absurd e h
  · cases e
  · subst e
    simp only [mvB,List.getElem?_eq_getElem hi,atO] at hb
    simp only [Bool.and_eq_true] at hb
    have h2:(doerI s.holders c.acts[i] == party)=true:=by
      have:=hb.1
      cases hq:(doerI s.holders c.acts[i] == party) with
      | true=>rfl
      | false=>rw [hq] at this;cases this
    unfold doerF
    rw [if_neg (by omega),Int.toNat_natCast,List.getElem?_eq_getElem hi]
    simpa using h2
end
end Go.Proofs.YtjkljacdbljkpaaDoor
