/-
  The abstract machine: what code asks of an abstract state, and the rules.
  The abstract machine: the rules for code.
  The abstract machine: calls; entering a function.
  The abstract machine: entering a function.
  The abstract machine: forgetting slots, objects and names.
  The abstract machine: regions that draw their order. The text's order serves every order that the edges allow.
  The abstract machine: regions that draw their order, the theorem.
  The abstract machine: the rule for regions that draw their order.
-/
import Derived.Test.YtlpmnmbebkdocaaGreatDoorTC02
import Derived.RangeFuncSeq
import Derived.RangeFuncCalls
import Derived.OrdersIn
import Derived.TacticsIn
import Derived.Deep.LoopGhost
import Derived.Scope
namespace Go.Proofs.YtlpmnmbebkdocaaGreatDoor
open Go.RowKit
set_option linter.unusedSimpArgs false
set_option linter.unusedVariables false
section
def vl (C : Ctx) (f : Nat) : Prop := ∃ fn, C.P.funcs[C.fnum f]? = some fn ∧ fn.body.isSome = true ∧ (fn.name == "runtime.NumGoroutine") = false
def RIs (Z:Nat→Nat) (w:World) (xs:List IV) (vs:List Value):Prop:=RCs Z w xs vs
def APure (C:Ctx) (f:Nat) (args:List IV) (r:IV):Prop:=vl C f ∧
  ∀ (Z:Nat→Nat) (w:World) (vs:List Value),(∀ b,0 < Z b→b < w.heap.size)→(C.tabs.p w∧C.tabs.n≤w.heap.size)→RIs Z w args vs →
    Calls C.P (C.fnum f) vs.toArray w fun e w'=>∃ v Z',e=.returned v∧RI Z' w' r v∧(∀ b,b < w.heap.size→Z' b=Z b)∧(∀ b,0 < Z' b→b < w'.heap.size)∧Below w.heap.size w w'
def RVs (C:Ctx) (g:Gh) (h:Nat→Option Zaf) (N:Nat→Prop) (w:World) (xs:List AV) (vs:List Value):Prop:=
  xs.length=vs.length∧∀ (j:Nat) (x:AV) (u:Value),xs[j]?=some x→vs[j]?=some u→RV C g h N w x u
def ACall (C:Ctx) (f:Nat) (args:List AV) (heap:List (Nat×Zaf)) (next:Nat) (K:AV→List (Nat×Zaf)→Nat→Prop):Prop:=vl C f ∧
  ∀ (g:Gh) (w:World) (vs:List Value),RH C g (za heap) (· < next) w→RVs C g (za heap) (· < next) w args vs →
    Calls C.P (C.fnum f) vs.toArray w fun e w'=>∃ v r heap' next' g',e=.returned v∧K r heap' next' ∧
      Evo g (za heap) (· < next) w g' (za heap') (· < next') w'∧RH C g' (za heap') (· < next') w'∧RV C g' (za heap') (· < next') w' r v
structure CtxY extends Ctx where
  ro:Option Nat
  at0:Option (Gh×St×World)
  Y:Nat→Nat→List AV→List (Nat×Zaf)→Nat→(AV→List (Nat×Zaf)→Nat→Prop)→Prop
  ymono:∀ l id args heap next (K K':AV→List (Nat×Zaf)→Nat→Prop),(∀ r h n,K r h n→K' r h n)→Y l id args heap next K→Y l id args heap next K'
  yok:∀ l id args heap next K,Y l id args heap next K→∀ (g:Gh) (w:World) (vs:List Value),RH toCtx g (za heap) (· < next) w→RVs toCtx g (za heap) (· < next) w args vs→(∀ R s pe,za heap id=some (.lp l R s pe)→g.ρ id=some l) →
    (match at0 with | none=>True | some (g0,st0,w0)=>Evo g0 (za st0.heap) (· < st0.next) w0 g (za heap) (· < next) w) →
    YieldAt Fence.wide 0 P l vs.toArray w fun e w'=>∃ v r heap' next' g',e=.returned v∧K r heap' next' ∧
      Evo g (za heap) (· < next) w g' (za heap') (· < next') w'∧RH toCtx g' (za heap') (· < next') w'∧RV toCtx g' (za heap') (· < next') w' r v
instance:Coe CtxY Ctx:=⟨CtxY.toCtx⟩
def noY:Nat→Nat→List AV→List (Nat×Zaf)→Nat→(AV→List (Nat×Zaf)→Nat→Prop)→Prop:=fun _ _ _ _ _ _=>False
def Ctx.plain (C:Ctx):CtxY:={C with ro:=none,at0:=none,Y:=noY,ymono:=fun _ _ _ _ _ _ _ _ h=>h,yok:=fun _ _ _ _ _ _ h=>h.elim}
def CtxY.inv (C:CtxY) (g:Gh) (st:St) (w:World):Prop:=match C.at0 with
  | none=>True
  | some (g0,st0,w0)=>Evo g0 (za st0.heap) (· < st0.next) w0 g (za st.heap) (· < st.next) w
theorem CtxY.inv.evo {C:CtxY} {g g':Gh} {st st':St} {w w':World} (h:C.inv g st w) (E:Evo g (za st.heap) (· < st.next) w g' (za st'.heap) (· < st'.next) w'):C.inv g' st' w':=by
  unfold CtxY.inv at *
  split
  · trivial
  · rename_i e;rw [e] at h;exact Evo.trans h E
def fen:Option Nat→Fence
  | none=>Fence.wide
  | some l=>Fence.wide.inRound l
theorem Zj (ro:Option Nat) (f:FuncId):(fen ro).fn f:=by cases ro<;>trivial
theorem QH (ro:Option Nat):(fen ro).depth=none:=by cases ro<;>rfl
theorem VY {ro:Option Nat} {n:Nat} {P:Program} {f:FuncId} {args:Array Value} {w:World} {R:Ending→World→Prop} (h:Calls P f args w R):CallsIn (fen ro) n P f args w R:=by
  cases ro with
  | none=>exact callsIn_wide.2 h
  | some l=>exact CallsIn.inRound l (callsIn_wide.2 h)
theorem Km {ro:Option Nat} {n:Nat} {P:Program} {l:Nat} {f:FuncId} {tmps:Array Value} {assign body:Code} {w:World} {R:Ending→World→Prop} (h:RoundIn Fence.wide n P l f tmps assign body w R):RoundIn (fen ro) n P l f tmps assign body w R:=by
  cases ro<;>exact h
def qI:Nat:=999999
def zJ {α:Type}:List (Nat×α)→Nat→α→List (Nat×α)
  | [],i,x=>[(i,x)]
  | (k,v)::r,i,x=>if k=i then (i,x)::r else if k=qI then (i,x)::(k,v)::r else (k,v)::zJ r i x
theorem z6 {α:Type} (l:List (Nat×α)) (i:Nat) (x:α) (j:Nat):za (zJ l i x) j=if i=j then some x else za l j:=by
  induction l with
  | nil=>simp [zJ,za]
  | cons p r ih=>
    obtain ⟨k,v⟩:=p
    simp only [zJ]
    split
    · rename_i hk
      subst hk
      simp only [za]
      split<;>rfl
    · rename_i hk
      split
      · simp only [za]
      · simp only [za,ih]
        split
        · rename_i hkj
          rw [if_neg (by omega)]
        · rfl
def zC:List (Nat×Zaf)→List (Nat×Zaf)→List (Nat×Zaf)
  | [],heap=>heap
  | (k,o)::r,heap=>zJ (zC r heap) k o
theorem jr (ups heap:List (Nat×Zaf)):za (zC ups heap)=hup ups (za heap):=by
  induction ups with
  | nil=>rfl
  | cons p r ih=>
    obtain ⟨k,o⟩:=p
    funext i
    simp only [zC,hup,z6,ih]
def St.put (st:St) (dst:Option Nat) (r:AV):St:=match dst with
  | some t=>{st with env:=zj st.env t r}
  | none=>st
def St.after (st:St) (dst:Option Nat) (r:AV) (ups:List (Nat×Zaf)):St:=
  St.put {st with heap:=zC ups st.heap,next:=st.next+1} dst r
def zQ (env:List (Nat×AV)):Option (Nat×Bool)→Option Bool
  | none=>some true
  | some (t,want)=>match (za env t).getD .top with
    | .imm (.bool b)=>some (b == want)
    | .undef=>some false
    | _=>none
def wP (C:CtxY) (it:AItem) (st:St) (K:St→Prop):Prop:=
  match zQ st.env it.guard with
  | some false=>K (st.after it.dst .undef [])
  | some true=>match it.op with
    | .call f args=>match zd st.env f with
      | .func f' first caps=>ACall C f' (first++args.map (zd st.env)++caps) st.heap st.next fun r heap' next'=>K (St.put {env:=st.env,heap:=heap',next:=next'+1} it.dst r)
      | .yld l id=>C.Y l id (args.map (zd st.env)) st.heap st.next fun r heap' next'=>K (St.put {env:=st.env,heap:=heap',next:=next'+1} it.dst r)
      | _=>False
    | op=>match evalOp op (zd st.env) (za st.heap) st.next with
      | some (r,ups)=>K (st.after it.dst r ups)
      | none=>False
  | none=>False
def evs (C:CtxY):List AItem→(St→Prop)→St→Prop
  | [],K,st=>K st
  | it::rest,K,st=>wP C it st (evs C rest K)
section
variable {C:Ctx} {nt:Fr} {g g':Gh} {st st':St} {a:Act} {w w':World}
def EvoS (g:Gh) (st:St) (w:World) (g':Gh) (st':St) (w':World):Prop:=Evo g (za st.heap) (· < st.next) w g' (za st'.heap) (· < st'.next) w'
theorem EvoS.refl (g:Gh) (st:St) (w:World):EvoS g st w g st w:=Evo.refl _ _ _ _
theorem EvoS.trans {g₁ g₂ g₃:Gh} {s₁ s₂ s₃:St} {w₁ w₂ w₃:World} (A:EvoS g₁ s₁ w₁ g₂ s₂ w₂) (B:EvoS g₂ s₂ w₂ g₃ s₃ w₃):EvoS g₁ s₁ w₁ g₃ s₃ w₃:=Evo.trans A B
theorem Kn (a:Act) (d:Nat) (v:Value) (t:Nat) (hd:d < a.tmps.size):(a.put (some d) v).tmps.getD t undef=if d=t then v else a.tmps.getD t undef:=by
  simp only [Act.put]
  by_cases h:d=t
  · subst h;simp [hd]
  · rw [if_neg h];simp [Array.getElem?_setIfInBounds_ne h]
theorem RE.put {env:List (Nat×AV)} {h:Nat→Option Zaf} {N:Nat→Prop} (R:RE C nt g env h N a w) (d:Nat) (hd:d < nt.n) {x:AV} {v:Value} (hx:RV C g h N w x v):RE C nt g (zj env d x) h N (a.put (some d) v) w:=by
  refine ⟨by simp [Act.put,R.size],R.defers,fun t y hy => ?_⟩
  rw [Kn a d v t (by rw [R.size];exact hd)]
  rw [zo] at hy
  split at hy
  · rename_i e;rw [if_pos e];cases hy;exact hx
  · rename_i e;rw [if_neg e];exact R.slot t y hy
theorem Rel.put (R:Rel C nt g st a w) (dst:Option Nat) (hd:∀ d,dst=some d→d < nt.n) {x:AV} {v:Value} (hx:RV C g (za st.heap) (· < st.next) w x v) :
    Rel C nt g (st.put dst x) (a.put dst v) w:=by
  cases dst with
  | none=>exact R
  | some d=>exact ⟨R.env.put d (hd d rfl) hx,R.heap⟩
theorem jA (n:Nat):z8 (· < n) n=(· < n+1):=by
  funext i
  simp only [z8,eq_iff_iff]
  omega
theorem RE.mono {env:List (Nat×AV)} {h h':Nat→Option Zaf} {N N':Nat→Prop} (R:RE C nt g env h N a w) (E:Evo g h N w g' h' N' w'):RE C nt g' env h' N' a w':=
  ⟨R.size,R.defers.evo E,fun t x hx=>(R.slot t x hx).mono E⟩
theorem VZ (R:Rel C nt g st a w) {dst:Option Nat} (hd:∀ d,dst=some d→d < nt.n) {r:AV} {ups:List (Nat×Zaf)} {v:Value} (hg:Good C g (za st.heap) (· < st.next) w st.next r ups v w') :
    ∃ g',Rel C nt g' (st.after dst r ups) (a.put dst v) w'∧EvoS g st w g' (st.after dst r ups) w':=by
  obtain ⟨g',E,H,hv⟩:=hg
  rw [jA] at E H hv
  rw [←jr] at E H hv
  refine ⟨g',?_,?_⟩
  · have R':Rel C nt g' {st with heap:=zC ups st.heap,next:=st.next+1} a w':=⟨R.env.mono E,H⟩
    exact R'.put dst hd hv
  · cases dst<;>exact E
theorem yX (R:Rel C nt g st a w) (x:Operand):RV C g (za st.heap) (· < st.next) w (zd st.env (C.opd x)) (a.eval x):=by
  cases x with
  | tmp t=>
    simp only [Ctx.opd,zd,Act.eval]
    cases h:za st.env t with
    | none=>exact .top _
    | some y=>exact R.env.slot t y h
  | const v=>exact wk v
  | global gg=>exact .top _
  | func f=>
    simp only [Ctx.opd]
    split
    · rename_i i hi
      have:=RV.func (C:=C) (g:=g) (h:=za st.heap) (N:=(· < st.next)) (w:=w) i [] [] [] [] rfl rfl (fun j c v hj=>by simp at hj) (fun j c v hj=>by simp at hj)
      rw [yG hi] at this
      exact this
    · exact .top _
theorem wa {ops:Array Oper} {o:Oper} {it:AItem} (hc:j9 C nt.n ops o=some it):yf C o.op=some it.op∧it.dst=o.dst∧(∀ d,o.dst=some d→d < nt.n) ∧
    ((o.guard=none∧it.guard=none)∨∃ j want t,o.guard=some (j,want)∧(ops[j]?).bind (·.dst)=some t∧t < nt.n∧it.guard=some (t,want)):=by
  unfold j9 at hc
  split at hc
  · rename_i ao hao
    split at hc
    · rename_i hd
      have hd':∀ d,o.dst=some d→d < nt.n:=fun d h=>by simpa [h,zgv] using hd
      split at hc
      · rename_i hg;cases hc;exact ⟨hao,rfl,hd',.inl ⟨hg,rfl⟩⟩
      · rename_i j want hg
        split at hc
        · rename_i t ht
          split at hc
          · rename_i htn;cases hc;exact ⟨hao,rfl,hd',.inr ⟨j,want,t,hg,ht,htn,rfl⟩⟩
          · cases hc
        · cases hc
    · cases hc
  · cases hc
theorem QJ (R:Rel C nt g st a w) {ops:Array Oper} {o:Oper} {it:AItem} (hc:j9 C nt.n ops o=some it) {b:Bool} (hg:zQ st.env it.guard=some b) :
    Region.wanted o (yielded ops a.tmps)=b:=by
  obtain ⟨_,_,_,hgd⟩:=wa hc
  rcases hgd with ⟨h1,h2⟩ | ⟨j,want,t,h1,h2,h3,h4⟩
  · rw [h2] at hg
    simp only [zQ,Option.some.injEq] at hg
    subst hg
    simp [Region.wanted,h1]
  · rw [h4] at hg
    simp only [zQ] at hg
    simp only [Region.wanted,h1,yielded,h2,ZaI]
    have hlt:t < a.tmps.size:=by rw [R.env.size];exact h3
    cases hs:za st.env t with
    | none=>simp [hs] at hg
    | some x=>
      have hv:=R.env.slot t x hs
      simp only [hs,Option.getD_some] at hg
      have hget:a.tmps[t]?=some (a.tmps.getD t undef):=by simp [hlt]
      rw [hget]
      split at hg
      · rename_i b'
        cases hg
        rw [wu hv]
        cases b'<;>cases want<;>rfl
      · cases hg
        generalize a.tmps.getD t undef=u at hv
        cases hv
        cases want<;>rfl
      · cases hg
inductive CallSrc (C:Ctx) (o:Op) (f:Opd) (ags:Array Operand):Prop where
  | value (fo:Operand) (ts:Array TypeId) (ho:o=.call {callee:=.value fo,args:=ags,argTypes:=ts}) (hf:f=C.opd fo)
  | inv (r:Nat) (name:String) (ts:Array TypeId) (ho:o=.call {callee:=.invoke (.tmp r) name,args:=ags,argTypes:=ts}) (hf:f=.m r (vg C.P C.tbl name C.ifs))
theorem J9 {o:Op} {f:Opd} {args:List Opd} (hc:yf C o=some (.call f args)):∃ ags,CallSrc C o f ags∧args=ags.toList.map C.opd:=by
  unfold yf at hc
  split at hc
  all_goals first
    | (cases hc;done)
    | (simp only [Option.some.injEq,AOp.call.injEq] at hc;obtain ⟨rfl,rfl⟩:=hc;first | exact ⟨_,.value _ _ rfl rfl,rfl⟩ | exact ⟨_,.inv _ _ _ rfl rfl,rfl⟩)
    | (repeat' split at hc)<;>(cases hc;done)
    | (unfold Jw at hc;(repeat' split at hc)<;>(cases hc;done))
    | (unfold vP at hc;(repeat' split at hc)<;>(cases hc;done))
end
end
section
section
variable {C:CtxY} {nt:Fr} {g g':Gh} {st st':St} {a:Act} {w w':World}
def Post (C:Ctx) (nt:Fr) (g0:Gh) (st0:St) (w0:World) (K:Exit→St→Prop):Exit→Act→World→Prop:=
  fun e a' w'=>∃ st' g',K e st'∧Rel C nt g' st' a' w'∧EvoS g0 st0 w0 g' st' w'
theorem zeZ {C:Ctx} {o:Oper} {fo:Operand} {ags:Array Operand} {ts:Array TypeId} (ho:o.op=.call {callee:=.value fo,args:=ags,argTypes:=ts}) {val:Operand→Value} {f:Nat} {first caps:Array Value}
    (hf:val fo=.func (.func (C.fnum f)) first caps) (hc:vl C f) (w:World):(execOp val o).run C.P w=.ok (.enter (C.fnum f) (first++ags.map val++caps)) w:=by
  obtain ⟨fn,h1,h2,h3⟩:=hc
  have h4:¬ fn.body=none:=fun h=>by simp [h] at h2
  have h5 : ¬ fn.name = "runtime.NumGoroutine" := fun h => by simp [h] at h3
  simp [execOp,ho,resolve,Deferred.ofValue,hf,invoke,callFunc,h1,h4,h5]
theorem vR {P:Program} {tbl:List Nat} {name:String}:∀ {ts:List TypeId} {t i:Nat},za (vg P tbl name ts) t=some i→∃ f,XI P t name=some f∧ZI tbl f=some i
  | [],t,i,h=>by cases h
  | u::r,t,i,h=>by
    unfold vg at h
    split at h
    · rename_i f hf
      split at h
      · rename_i j hj
        simp only [za] at h
        split at h
        · rename_i e
          cases h
          subst e
          exact ⟨f,hf,hj⟩
        · exact vR h
      · exact vR h
    · exact vR h
theorem zb8 {P:Program} {t:TypeId} {name:String} {f:FuncId} (h:XI P t name=some f) (k:Nat) (v:Value) (w:World):(method (k+1) t v name).run P w=.ok (f,v) w:=by
  unfold XI at h
  split at h
  · rename_i i hi
    split at h
    · rename_i m hm
      split at h
      · rename_i f' fs hp hf hu
        cases h
        have hti:(typeInfo t).run P w=.ok i w:=by simp [typeInfo,Sem.run_bind,hi]
        simp only [method,Sem.run_bind,hti,Result.andThen_ok,hm,hp,follow,Sem.run_pure,hf,receiverAt,run_underlying hu,Place.get]
      · cases h
    · cases h
  · cases h
theorem zds {o:Oper} {fo:Operand} {ags:Array Operand} {ts:Array TypeId} (ho:o.op=.call {callee:=.value fo,args:=ags,argTypes:=ts}) {val:Operand→Value} {l:Nat}
    (hf:val fo=.func (.yield l) #[] #[]) {P:Program} (w:World):(execOp val o).run P w=(Instr.yield l (ags.map val)).run P w:=by
  simp [execOp,ho,resolve,Deferred.ofValue,hf,invoke]
open Classical in
theorem XV {F:Fence} {n:Nat} {P:Program} {c:Code} {Q:Exit→Act→World→Prop} {a:Act} {w:World} (J:Nat→Act→World→Prop) (m:Nat) (h0:J m a w)
    (round:∀ m a w,J m a w→c.wpIn F n P (Exit.then (fun a' w'=>∃ m',m' < m∧J m' a' w') Q) a w):(Code.loop c).wpIn F n P Q a w:=by
  have least:∀ (p:Nat→Prop) (m:Nat),p m→∃ k,p k∧∀ j,p j→k≤j:=by
    intro p m
    induction m using Nat.strongRecOn with
    | _ m ih=>
      intro hm
      by_cases h:∃ j,j < m∧p j
      · obtain ⟨j,hj,hp⟩:=h;exact ih j hj hp
      · exact ⟨m,hm,fun j hj=>Nat.le_of_not_lt fun hlt=>h ⟨j,hlt,hj⟩⟩
  let μ:Act→World→Nat:=fun a w=>if h:∃ k,J k a w∧∀ j,J j a w→k≤j then h.choose else 0
  have hμ:∀ a w m,J m a w→J (μ a w) a w∧μ a w≤m:=fun a w m hm=>by
    have h:=least (fun k=>J k a w) m hm
    show J (if h:∃ k,J k a w∧∀ j,J j a w→k≤j then h.choose else 0) a w∧(if h:∃ k,J k a w∧∀ j,J j a w→k≤j then h.choose else 0)≤m
    rw [dif_pos h]
    exact ⟨h.choose_spec.1,h.choose_spec.2 m hm⟩
  refine wpIn_loop (fun a w=>∃ m,J m a w) μ ⟨m,h0⟩ fun a w ⟨m,hm⟩ => ?_
  refine Code.wpIn_mono ?_ (round (μ a w) a w (hμ a w m hm).1)
  intro e a' w' q
  cases e with
  | normal=>
    obtain ⟨m',hlt,hJ⟩:=q
    exact ⟨⟨m',hJ⟩,Nat.lt_of_le_of_lt (hμ a' w' m' hJ).2 hlt⟩
  | _=>exact q
theorem XW {C:Ctx} {g:Gh} {h:Nat→Option Zaf} {N:Nat→Prop} {w:World} {o:Oper} {env:List (Nat×AV)} {val:Operand→Value} (hv:∀ x∈o.op.operands,RV C g h N w (zd env (C.opd x)) (val x))
    {f:Opd} {ags:Array Operand} {f':Nat} {first caps:List AV} (S:CallSrc C o.op f ags) (hf:zd env f=.func f' first caps) :
    ∃ vf vc:List Value,RVs C g h N w (first++(ags.toList.map C.opd).map (zd env)++caps) (vf++(ags.toList.map val)++vc) ∧
      ∀ w,vl C f'→(execOp val o).run C.P w=.ok (.enter (C.fnum f') (vf.toArray++ags.map val++vc.toArray)) w:=by
  cases S with
  | value fo ts ho hfo=>
    subst hfo
    have hvf:=hv fo (by simp [ho,Op.operands,Call.operands])
    rw [hf] at hvf
    generalize hval:val fo=v at hvf
    cases hvf with
    | func _ _ _ vf vc hlf hlc hf1 hc1=>
      refine ⟨vf,vc,⟨by simp [hlf,hlc],fun j x u hj hu => ?_⟩,fun w hc=>zeZ ho hval hc w⟩
      rw [List.append_assoc,List.getElem?_append] at hj hu
      rw [hlf] at hj
      split at hj
      · rename_i hlt;rw [if_pos hlt] at hu;exact hf1 j x u hj hu
      · rename_i hlt
        rw [if_neg hlt] at hu
        rw [List.getElem?_append] at hj hu
        simp only [List.length_map] at hj hu
        split at hj
        · rename_i hlt2
          rw [if_pos hlt2] at hu
          simp only [List.getElem?_map,Option.map_eq_some_iff] at hj hu
          obtain ⟨o1,⟨y,hy,rfl⟩,rfl⟩:=hj
          obtain ⟨z,hz,rfl⟩:=hu
          rw [hy] at hz
          cases hz
          exact hv y (by simp only [ho,Op.operands,Call.operands];simp;exact .inr (by simpa using List.mem_of_getElem? hy))
        · rename_i hlt2
          rw [if_neg hlt2] at hu
          exact hc1 _ x u hj hu
  | inv r name ts ho hfo=>
    subst hfo
    simp only [zd] at hf
    split at hf
    · rename_i t x e1
      split at hf
      · rename_i i e2
        cases hf
        obtain ⟨fid,h1,h2⟩:=vR e2
        have hvr:=hv (.tmp r) (by simp [ho,Op.operands,Call.operands])
        simp only [Ctx.opd,zd] at hvr
        rw [e1] at hvr
        generalize hval:val (.tmp r)=v at hvr
        cases hvr with
        | imm _ _ hr=>
          cases hr with
          | iface _ _ u hr=>
            refine ⟨[u],[],⟨by simp,fun j y z hj hz => ?_⟩,fun w hc => ?_⟩
            · cases j with
              | zero=>simp at hj hz;subst hj hz;exact .imm _ _ hr
              | succ j=>
                simp only [List.append_nil,List.cons_append,List.nil_append,List.getElem?_cons_succ,List.getElem?_map,Option.map_eq_some_iff] at hj hz
                obtain ⟨o1,⟨y',hy,rfl⟩,rfl⟩:=hj
                obtain ⟨z',hz,rfl⟩:=hz
                rw [hy] at hz
                cases hz
                exact hv y' (by simp only [ho,Op.operands,Call.operands];simp;exact .inr (by simpa using List.mem_of_getElem? hy))
            · obtain ⟨fn,h3,h4,h5⟩:=hc
              have h6:¬ fn.body=none:=fun h=>by simp [h] at h4
              have h7 : ¬ fn.name = "runtime.NumGoroutine" := fun h => by simp [h] at h5
              have hfn:=yG h2
              have hm:=zb8 h1 (C.P.types.size+99) u w
              have hd:C.P.types.size+Made.depth=C.P.types.size+99+1:=rfl
              have he:(ags.map val).extract 0 ags.size=ags.map val:=by
                apply Array.ext'
                simp only [Array.toList_extract,List.extract_eq_take_drop,List.drop_zero,Nat.sub_zero,Array.toList_map]
                exact List.take_of_length_le (by simp)
              rw [hfn] at h3 ⊢
              have h0:(#[Value.iface t u]++ags.map val)[0]?=some (.iface t u):=by
                rw [Array.getElem?_append_left (by simp)];rfl
              simp [execOp,ho,resolve,hval,invoke,callMethod,he,callFunc]
              rw [h0]
              simp [Sem.run_bind,hd,hm,h3,h6,h7]
      · cases hf
    · cases hf
theorem zdt {C:Ctx} (R:Rel C nt g st a w) {o:Oper} {f:Opd} {ags:Array Operand} {f':Nat} {first caps:List AV} (S:CallSrc C o.op f ags) (hf:zd st.env f=.func f' first caps) :
    ∃ vf vc:List Value,RVs C g (za st.heap) (· < st.next) w (first++(ags.toList.map C.opd).map (zd st.env)++caps) (vf++(ags.toList.map a.eval)++vc) ∧
      ∀ w,vl C f'→(execOp a.eval o).run C.P w=.ok (.enter (C.fnum f') (vf.toArray++ags.map a.eval++vc.toArray)) w:=XW (fun x _=>yX R x) S hf
theorem CallSrc.isCall {C:Ctx} {o:Op} {f:Opd} {ags:Array Operand} (S:CallSrc C o f ags):∃ c,o=.call c:=by
  cases S with
  | value fo ts ho _=>exact ⟨_,ho⟩
  | inv r name ts ho _=>exact ⟨_,ho⟩
theorem CallSrc.yld {C:Ctx} {o:Op} {f:Opd} {ags:Array Operand} (S:CallSrc C o f ags) {env:List (Nat×AV)} {l id:Nat} (h:zd env f=.yld l id):∃ fo ts,o=.call {callee:=.value fo,args:=ags,argTypes:=ts}∧f=C.opd fo:=by
  cases S with
  | value fo ts ho hf=>exact ⟨fo,ts,ho,hf⟩
  | inv r name ts ho hf=>
    subst hf
    simp only [zd] at h
    split at h
    · split at h<;>cases h
    · cases h
theorem Ko {ops:Array Oper} {o:Oper} {it:AItem} (hc:j9 C nt.n ops o=some it) {K:St→Prop} (he:wP C it st K) (R:Rel C nt g st a w) (hI:C.inv g st w)
    {next:Act→World→Prop} {Q:Exit→Act→World→Prop}
    (hn:∀ st' g' a' w',K st'→Rel C nt g' st' a' w'→EvoS g st w g' st' w'→next a' w') :
    if Region.wanted o (yielded ops a.tmps) then o.wpIn (fen C.ro) 0 C.P a w next Q else next (a.put o.dst undef) w:=by
  obtain ⟨hop,hdst,hdlt,_⟩:=wa hc
  unfold wP at he
  split at he
  · rename_i hg
    rw [QJ R hc hg]
    simp only [Bool.false_eq_true,if_false]
    obtain ⟨g',R',E'⟩:=VZ (dst:=it.dst) R (fun d hd=>hdlt d (hdst ▸ hd)) (zm (id:=st.next) R.heap RV.undef)
    rw [hdst] at R' he E'
    exact hn _ _ _ _ he R' E'
  · rename_i hg
    rw [QJ R hc hg]
    simp only [if_true]
    split at he
    · rename_i f args hcall
      rw [hcall] at hop
      obtain ⟨ags,S,rfl⟩:=J9 hop
      obtain ⟨cc,hcc⟩:=S.isCall
      split at he
      · rename_i f' first caps hfv
        obtain ⟨vf,vc,hrvs,hrun0⟩:=zdt R S hfv
        obtain ⟨hcallable,hcalls⟩:=he
        have hrun:=hrun0 w hcallable
        refine ⟨fun f _=>Zj _ f,?_⟩
        rw [Oper.semAt_eq _ _ _ (fun c hc=>by rw [hcc] at hc;cases hc),hrun]
        simp only [Oper.uponIn]
        refine ⟨fun h=>(by rw [QH] at h;cases h),VY ?_⟩
        have harr:vf.toArray++ags.map a.eval++vc.toArray=(vf++ags.toList.map a.eval++vc).toArray:=by apply Array.ext';simp
        rw [harr]
        refine (hcalls g w _ R.heap hrvs).mono ?_
        rintro e w' ⟨v,r,heap',next',g',rfl,hK,E,H,hv⟩
        have R1:Rel C nt g' {env:=st.env,heap:=heap',next:=next'} a w':=⟨R.env.mono E,H⟩
        have E2:Evo g' (za heap') (· < next') w' g' (za heap') (· < next'+1) w':=by
          have:=Evo.add g' (za heap') (· < next') w' next'
          rwa [jA] at this
        have H2:RH C g' (za heap') (· < next'+1) w':=by
          have:=H.add next'
          rwa [jA] at this
        have R2:Rel C nt g' {env:=st.env,heap:=heap',next:=next'+1} a w':=⟨R1.env.mono E2,H2⟩
        have R3:=R2.put it.dst (fun d hd=>hdlt d (hdst ▸ hd)) (hv.mono E2)
        rw [hdst] at R3 hK
        refine hn _ _ _ _ hK R3 ?_
        cases hd:o.dst<;>exact Evo.trans E E2
      · rename_i l id hfv
        obtain ⟨fo,ts,ho,rfl⟩:=S.yld hfv
        have hv:=yX R fo
        rw [hfv] at hv
        generalize hval:a.eval fo=v at hv
        obtain ⟨rfl,hlp⟩:v=.func (.yield l) #[] #[]∧∀ R s pe,za st.heap id=some (.lp l R s pe)→g.ρ id=some l:=by cases hv with | yld _ _ _ hp=>exact ⟨rfl,hp⟩
        have hrvs:RVs C g (za st.heap) (· < st.next) w ((ags.toList.map C.opd).map (zd st.env)) (ags.toList.map a.eval):=⟨by simp,fun j x u hj hu=>by
          simp only [List.getElem?_map,Option.map_eq_some_iff] at hj hu
          obtain ⟨o1,⟨y,hy,rfl⟩,rfl⟩:=hj
          obtain ⟨z,hz,rfl⟩:=hu
          rw [hy] at hz
          cases hz
          exact yX R y⟩
        obtain ⟨fn,tmps,assign,body,hy,hR⟩:=C.yok l id _ _ _ _ he g w _ R.heap hrvs hlp hI
        have harr:(ags.toList.map a.eval).toArray=ags.map a.eval:=by apply Array.ext';simp
        rw [harr] at hy
        refine ⟨fun f _=>Zj _ f,?_⟩
        rw [Oper.semAt_eq _ _ _ (fun c hc=>by rw [ho] at hc;cases hc),zds ho hval,hy]
        simp only [Oper.uponIn]
        refine ⟨fun h=>(by rw [QH] at h;cases h),Km (hR.mono ?_)⟩
        rintro e w' ⟨v,r,heap',next',g',rfl,hK,E,H,hv⟩
        have R1:Rel C nt g' {env:=st.env,heap:=heap',next:=next'} a w':=⟨R.env.mono E,H⟩
        have E2:Evo g' (za heap') (· < next') w' g' (za heap') (· < next'+1) w':=by
          have:=Evo.add g' (za heap') (· < next') w' next'
          rwa [jA] at this
        have H2:RH C g' (za heap') (· < next'+1) w':=by
          have:=H.add next'
          rwa [jA] at this
        have R2:Rel C nt g' {env:=st.env,heap:=heap',next:=next'+1} a w':=⟨R1.env.mono E2,H2⟩
        have R3:=R2.put it.dst (fun d hd=>hdlt d (hdst ▸ hd)) (hv.mono E2)
        rw [hdst] at R3 hK
        refine hn _ _ _ _ hK R3 ?_
        cases hd:o.dst<;>exact Evo.trans E E2
      · exact he.elim
    · rename_i hncall
      split at he
      · rename_i r ups hev
        obtain ⟨v,w',hran,hgood⟩:=Kl hop g (za st.heap) (· < st.next) w st.next (zd st.env) a.eval r ups R.heap (by omega) (fun x _=>yX R x) hev
        obtain ⟨g',R',E'⟩:=VZ (dst:=it.dst) R (fun d hd=>hdlt d (hdst ▸ hd)) hgood
        rw [hdst] at R' he E'
        refine ⟨fun f _=>Zj _ f,?_⟩
        rw [Oper.semAt_eq _ _ _ (fun c hc=>by rw [hc] at hop;simp [yf] at hop)]
        rcases hran with hran | ⟨hran,rfl⟩
        · rw [hran];exact hn _ _ _ _ he R' E'
        · rw [hran];exact hn _ _ _ _ he R' E'
      · exact he.elim
  · exact he.elim
theorem zdu {ops:Array Oper} {K:Exit→St→Prop} {g0:Gh} {st0:St} {w0:World}:∀ (l:List Oper) (items:List AItem),mapO (j9 C nt.n ops) l=some items →
    ∀ (st:St) (g:Gh) (a:Act) (w:World),evs C items (K .normal) st→Rel C nt g st a w→C.inv g0 st0 w0→EvoS g0 st0 w0 g st w→wpListIn (fen C.ro) 0 C.P ops (Post C nt g0 st0 w0 K) l a w:=by
  intro l
  induction l with
  | nil=>
    intro items hm st g a w he R hI E
    simp [mapO] at hm
    subst hm
    exact ⟨st,g,he,R,E⟩
  | cons o l ih=>
    intro items hm st g a w he R hI E
    simp only [mapO] at hm
    split at hm
    · rename_i it hit
      split at hm
      · rename_i its hits
        cases hm
        have:=Ko (Q:=Post C nt g0 st0 w0 K) (next:=wpListIn (fen C.ro) 0 C.P ops (Post C nt g0 st0 w0 K) l) hit he R (hI.evo E) (fun st' g' a' w' hk R' E'=>ih its hits st' g' a' w' hk R' hI (E.trans E'))
        unfold wpListIn
        split
        · rename_i hw;rw [if_pos hw] at this;exact this
        · rename_i hw;rw [if_neg hw] at this;exact ⟨fun f _=>Zj _ f,this⟩
      · cases hm
    · cases hm
def awp (C:CtxY) (nt:Fr) (ac:ZaG) (K:Exit→St→Prop) (st:St):Prop:=
  ∀ code,comp C nt.n code=some ac.erase→∀ g a w,Rel C nt g st a w→C.inv g st w→code.wpIn (fen C.ro) 0 C.P (Post C nt g st w K) a w
def qw (ks:List Nat) (env:List (Nat×AV)):List (Nat×AV):=env.filter fun p=>ks.contains p.1
def St.keep (st:St):Option (List Nat)→St
  | none=>st
  | some ks=>{st with env:=qw ks st.env}
theorem ZL {ks:List Nat}:∀ {env:List (Nat×AV)} {t:Nat} {x:AV},za (qw ks env) t=some x→za env t=some x
  | [],t,x,h=>by simp [qw,za] at h
  | (k,v)::r,t,x,h=>by
    simp only [qw,List.filter_cons] at h
    split at h
    · simp only [za] at h ⊢
      split
      · rename_i e;rw [if_pos e] at h;exact h
      · rename_i e;rw [if_neg e] at h;exact ZL (ks:=ks) h
    · rename_i hk
      have h':=ZL (ks:=ks) (env:=r) h
      simp only [za]
      split
      · rename_i e
        subst e
        have hkn:ks.contains k=true:=by
          have:∀ {r:List (Nat×AV)},za (List.filter (fun p=>ks.contains p.1) r) k=some x→ks.contains k=true:=by
            intro r
            induction r with
            | nil=>intro h;simp [za] at h
            | cons p r ih=>
              intro h
              simp only [List.filter_cons] at h
              split at h
              · rename_i hp
                simp only [za] at h
                split at h
                · rename_i e;rw [←e];exact hp
                · exact ih h
              · exact ih h
          exact this h
        exact absurd hkn hk
      · exact h'
theorem Rel.keep {C:Ctx} (R:Rel C nt g st a w) (ks:Option (List Nat)):Rel C nt g (st.keep ks) a w:=by
  cases ks with
  | none=>exact R
  | some ks=>exact ⟨⟨R.env.size,R.env.defers,fun t x h=>R.env.slot t x (ZL h)⟩,R.heap⟩
theorem Post.mono {C:Ctx} {g0:Gh} {st0:St} {w0:World} {K K':Exit→St→Prop} (h:∀ e st,K e st→K' e st):∀ e a w,Post C nt g0 st0 w0 K e a w→Post C nt g0 st0 w0 K' e a w:=
  fun e a w ⟨st',g',hk,R,E⟩=>⟨st',g',h e st' hk,R,E⟩
theorem qS {ac:ZaG} {K K':Exit→St→Prop} (h:∀ e st,K e st→K' e st) (hw:awp C nt ac K st):awp C nt ac K' st:=
  fun code hc g a w R hI=>Code.wpIn_mono (Post.mono h) (hw code hc g a w R hI)
theorem Xj {K:Exit→St→Prop} (h:K .normal st):awp C nt .skip K st:=by
  intro code hc g a w R hI
  simp only [ZaG.erase] at hc
  cases code
  case skip=>exact wpIn_skip ⟨st,g,h,R,EvoS.refl _ _ _⟩
  case label l=>exact wpIn_label ⟨st,g,h,R,EvoS.refl _ _ _⟩
  all_goals (simp only [comp] at hc;(repeat' split at hc)<;>cases hc)
theorem ze0 {code:Code} {x y:ZaG} (hc:comp C nt.n code=some (.seq x y)):∃ p q,code=.seq p q∧comp C nt.n p=some x∧comp C nt.n q=some y:=by
  cases code<;>simp only [comp] at hc<;>(repeat' split at hc)<;>cases hc
  rename_i h1 h2
  exact ⟨_,_,rfl,h1,h2⟩
theorem zdv {code:Code} {c:Opd} {x y:ZaG} (hc:comp C nt.n code=some (.cond c x y)):∃ c' p q,code=.cond c' p q∧c=C.opd c'∧comp C nt.n p=some x∧comp C nt.n q=some y:=by
  cases code<;>simp only [comp] at hc<;>(repeat' split at hc)<;>cases hc
  rename_i h1 h2
  exact ⟨_,_,_,rfl,rfl,h1,h2⟩
theorem zb9 {code:Code} {id:Nat} {x:ZaG} (hc:comp C nt.n code=some (.block id x)):∃ p,code=.block id p∧comp C nt.n p=some x:=by
  cases code<;>simp only [comp] at hc<;>(repeat' split at hc)<;>cases hc
  rename_i h1
  exact ⟨_,rfl,h1⟩
theorem zdw {code:Code} {x:ZaG} (hc:comp C nt.n code=some (.loop x)):∃ p,code=.loop p∧comp C nt.n p=some x:=by
  cases code<;>simp only [comp] at hc<;>(repeat' split at hc)<;>cases hc
  rename_i h1
  exact ⟨_,rfl,h1⟩
theorem zca {code:Code} {x:ZaG} (hc:comp C nt.n code=some (.scope x)):∃ p,code=.scope p∧comp C nt.n p=some x:=by
  cases code<;>simp only [comp] at hc<;>(repeat' split at hc)<;>cases hc
  rename_i h1
  exact ⟨_,rfl,h1⟩
theorem Xa {code:Code} {d:Bool} {ord:List Nat} {items:List AItem} (hc:comp C nt.n code=some (.region d ord items none)):∃ id ops,code=.region id ops d∧mapO (j9 C nt.n ops) ops.toList=some items ∧
    (d=true→C.P.follows .mixedOrders=true∧ord=(Region.before ops).toList∧wO ops ord=true):=by
  cases code
  case region id ops draw=>
    simp only [comp] at hc
    split at hc
    · rename_i its hits
      cases draw with
      | true=>
        simp only [if_true] at hc
        split at hc
        · rename_i hcond
          simp only [Bool.and_eq_true] at hcond
          simp only [Option.some.injEq,ZaG.region.injEq,and_true] at hc
          obtain ⟨rfl,rfl,rfl⟩:=hc
          exact ⟨id,ops,rfl,hits,fun _=>⟨hcond.1,rfl,hcond.2⟩⟩
        · cases hc
      | false=>
        simp only [Bool.false_eq_true,if_false,Option.some.injEq,ZaG.region.injEq,and_true] at hc
        obtain ⟨rfl,rfl,rfl⟩:=hc
        exact ⟨id,ops,rfl,hits,fun h=>by cases h⟩
    · cases hc
  all_goals (simp only [comp] at hc;(repeat' split at hc)<;>cases hc)
def yD (next:St→Prop) (K:Exit→St→Prop):Exit→St→Prop
  | .normal,st=>next st
  | e,st=>K e st
theorem xn {x y:ZaG} {K:Exit→St→Prop} (h:awp C nt x (yD (awp C nt y K) K) st):awp C nt (.seq x y) K st:=by
  intro code hc g a w R hI
  obtain ⟨p,q,rfl,h1,h2⟩:=ze0 hc
  refine wpIn_seq (Code.wpIn_mono ?_ (h p h1 g a w R hI))
  rintro e a' w' ⟨st',g',hk,R',E⟩
  cases e with
  | normal=>
    refine Code.wpIn_mono ?_ (hk q h2 g' a' w' R' (hI.evo E))
    rintro e a'' w'' ⟨st'',g'',hk',R'',E'⟩
    exact ⟨st'',g'',hk',R'',E.trans E'⟩
  | _=>exact ⟨st',g',hk,R',E⟩
theorem wl {c:Opd} {x y:ZaG} {K:Exit→St→Prop} (b:Bool) (hb:zd st.env c=.imm (.bool b)) (ht:b=true→awp C nt x K st) (hf:b=false→awp C nt y K st) :
    awp C nt (.cond c x y) K st:=by
  intro code hc g a w R hI
  obtain ⟨c',p,q,rfl,rfl,h1,h2⟩:=zdv hc
  have hv:=yX R c'
  rw [hb] at hv
  refine wpIn_cond_split (wu hv) (fun h=>ht h p h1 g a w R hI) (fun h=>hf h q h2 g a w R hI)
def xo (id:Nat) (K:Exit→St→Prop):Exit→St→Prop
  | .exit id',st=>if id'=id then K .normal st else K (.exit id') st
  | e,st=>K e st
theorem kI {id:Nat} {x:ZaG} {K:Exit→St→Prop} (h:awp C nt x (xo id K) st):awp C nt (.block id x) K st:=by
  intro code hc g a w R hI
  obtain ⟨p,rfl,h1⟩:=zb9 hc
  refine wpIn_block (Code.wpIn_mono ?_ (h p h1 g a w R hI))
  rintro e a' w' ⟨st',g',hk,R',E⟩
  cases e with
  | exit id'=>
    simp only [Exit.inBlock,xo] at hk ⊢
    split
    · rename_i e;rw [if_pos e] at hk;exact ⟨st',g',hk,R',E⟩
    · rename_i e;rw [if_neg e] at hk;exact ⟨st',g',hk,R',E⟩
  | _=>exact ⟨st',g',hk,R',E⟩
def Zk (K:Exit→St→Prop):Exit→St→Prop
  | .goto _,_=>False
  | e,st=>K e st
theorem V0 (hro:C.ro=none) {x:ZaG} {K:Exit→St→Prop} (h:awp C nt x (Zk K) st):awp C nt (.scope x) K st:=by
  intro code hc g a w R hI
  obtain ⟨p,rfl,h1⟩:=zca hc
  have h2:=h p h1 g a w R hI
  rw [hro] at h2 ⊢
  refine wpIn_wide.2 (wp_scope_straight (Code.wp_mono ?_ (wpIn_wide.1 h2)))
  rintro e a' w' ⟨st',g',hk,R',E⟩
  cases e with
  | goto l=>exact hk.elim
  | _=>exact ⟨st',g',hk,R',E⟩
theorem Xk {id:Nat} {K:Exit→St→Prop} (h:K (.exit id) st):awp C nt (.exit id) K st:=by
  intro code hc g a w R hI
  simp only [ZaG.erase] at hc
  cases code<;>simp only [comp] at hc<;>(repeat' split at hc)<;>cases hc
  exact wpIn_exit ⟨st,g,h,R,EvoS.refl _ _ _⟩
theorem Vb {K:Exit→St→Prop} (h:K .ret st):awp C nt .ret K st:=by
  intro code hc g a w R hI
  simp only [ZaG.erase] at hc
  cases code<;>simp only [comp] at hc<;>(repeat' split at hc)<;>cases hc
  exact wpIn_ret ⟨st,g,h,R,EvoS.refl _ _ _⟩
theorem XX {ord:List Nat} {items:List AItem} {ks:Option (List Nat)} {K:Exit→St→Prop} (h:evs C items (fun st'=>K .normal (st'.keep ks)) st):awp C nt (.region false ord items ks) K st:=by
  intro code hc g a w R hI
  obtain ⟨id,ops,rfl,hm,_⟩:=Xa hc
  have:=zdu (C:=C) (nt:=nt) (ops:=ops) (K:=fun e st'=>K e (st'.keep ks)) (g0:=g) (st0:=st) (w0:=w) ops.toList items hm st g a w h R hI (EvoS.refl _ _ _)
  refine Code.wpIn_mono ?_ (wpIn_region_list this)
  rintro e a' w' ⟨st',g',hk,R',E⟩
  exact ⟨st'.keep ks,g',hk,R'.keep ks,by cases ks<;>exact E⟩
def Weak (st st':St):Prop:=∀ (C:Ctx) (nt:Fr) (g:Gh) (a:Act) (w:World),Rel C nt g st a w →
  ∃ g',Rel C nt g' st' a w∧∀ g0 st0 w0,st0.next≤st'.next→EvoS g0 st0 w0 g st w→EvoS g0 st0 w0 g' st' w
theorem Weak.refl (st:St):Weak st st:=fun _ _ g _ _ R=>⟨g,R,fun _ _ _ _ E=>E⟩
theorem CtxY.inv.weak {g1:Gh} {st1:St} (h:C.inv g st w) (hE:∀ g0 st0 w0,st0.next≤st1.next→EvoS g0 st0 w0 g st w→EvoS g0 st0 w0 g1 st1 w) (hn:st.next≤st1.next):C.inv g1 st1 w:=by
  unfold CtxY.inv at *
  split
  · trivial
  · rename_i g0 st0 w0 e
    rw [e] at h
    refine hE g0 st0 w0 ?_ h
    rcases Nat.eq_zero_or_pos st0.next with h0 | h0
    · omega
    · have h1:st0.next - 1 < st.next:=Evo.next h (st0.next - 1) (by show st0.next - 1 < st0.next;omega)
      omega
theorem Xl {ac:ZaG} {K:Exit→St→Prop} {st1:St} (hw:Weak st st1) (hn:st.next≤st1.next) (h:awp C nt ac K st1):awp C nt ac K st:=by
  intro code hc g a w R hI
  obtain ⟨g1,R1,hE⟩:=hw C nt g a w R
  have E1:=hE g st w hn (EvoS.refl _ _ _)
  refine Code.wpIn_mono ?_ (h code hc g1 a w R1 (hI.weak hE hn))
  rintro e a' w' ⟨st',g',hk,R',E⟩
  exact ⟨st',g',hk,R',E1.trans E⟩
theorem Xm {ι:Type} {x:ZaG} {K:Exit→St→Prop} (S:ι→St) (μ:ι→Nat) (i0:ι) (hn:∀ i,(S i0).next≤(S i).next) (h0:Weak st (S i0)) (hn0:st.next≤(S i0).next)
    (round:∀ i,awp C nt x (yD (fun st'=>∃ j,μ j < μ i∧Weak st' (S j)) K) (S i)):awp C nt (.loop x) K st:=by
  refine Xl h0 hn0 ?_
  intro code hc g a w R hI
  obtain ⟨p,rfl,h1⟩:=zdw hc
  refine XV (fun n a' w'=>∃ i g',n=μ i∧Rel C nt g' (S i) a' w'∧EvoS g (S i0) w g' (S i) w') (μ i0) ⟨i0,g,rfl,R,EvoS.refl _ _ _⟩ ?_
  rintro n a1 w1 ⟨i,g1,rfl,R1,E1⟩
  refine Code.wpIn_mono ?_ (round i p h1 g1 a1 w1 R1 (hI.evo E1))
  rintro e a' w' ⟨st',g',hk,R',E'⟩
  cases e with
  | normal=>
    obtain ⟨j,hlt,hweak⟩:=hk
    obtain ⟨g2,R2,hE2⟩:=hweak C nt g' a' w' R'
    exact ⟨μ j,hlt,j,g2,rfl,R2,hE2 g (S i0) w (hn j) (E1.trans E')⟩
  | _=>exact ⟨st',g',hk,R',E1.trans E'⟩
end
end
section
section
variable {C:Ctx} {nt:Fr} {g g':Gh} {h h':Nat→Option Zaf} {N N':Nat→Prop} {st st':St} {a:Act} {w w':World}
theorem Vc (R:RH C g h N w) (Z':Nat→Nat) (hZ:∀ b,g.Z b≤Z' b) (hO:∀ i b sz rows,g.ρ i=some b→h i=some (.rows sz rows)→rows.length*sz≤Z' b) (hM:∀ i b es,g.ρ i=some b→h i=some (.map es)→0 < Z' b) :
    ∀ (d:Nat) (x:AV) (v:Value) (y:IV),zx h d x=some y→RV C g h N w x v→RI Z' w y v:=by
  have up:∀ {y:IV} {v:Value},RI g.Z w y v→RI Z' w y v:=fun hr=>hr.mono hZ (Frz.refl _ _)
  intro d
  induction d with
  | zero=>intro x v y hx;simp [zx] at hx
  | succ d ih=>
    intro x v y hx hv
    cases hv with
    | imm z _ hr=>simp [zx] at hx;subst hx;exact up hr
    | nil=>simp [zx] at hx;subst hx;exact .nil
    | nnil a cap=>simp [zx] at hx;subst hx;exact vj
    | Zas i rows _ hr _ _=>simp [zx] at hx;subst hx;exact up hr
    | agg cs vs hl h1 hr=>
      simp only [zx,Option.map_eq_some_iff] at hx
      obtain ⟨out,hout,rfl⟩:=hx
      obtain ⟨h2,h3⟩:=z7 hout
      refine .agg out vs (by rw [h2];exact hl) h1 fun i c u hc hu => ?_
      have hlt:i < cs.length:=by rw [←h2];exact (List.getElem?_eq_some_iff.1 hc).1
      obtain ⟨c',h4,h5⟩:=h3 i cs[i] (by simp)
      rw [hc] at h4
      cases h4
      exact ih _ _ _ h5 (hr i cs[i] u (by simp) hu)
    | tuple cs vs hl hr=>
      simp only [zx,Option.map_eq_some_iff] at hx
      obtain ⟨out,hout,rfl⟩:=hx
      obtain ⟨h2,h3⟩:=z7 hout
      refine .tuple out vs (by rw [h2];exact hl) fun i c u hc hu => ?_
      have hlt:i < cs.length:=by rw [←h2];exact (List.getElem?_eq_some_iff.1 hc).1
      obtain ⟨c',h4,h5⟩:=h3 i cs[i] (by simp)
      rw [hc] at h4
      cases h4
      exact ih _ _ _ h5 (hr i cs[i] u (by simp) hu)
    | Zal i off len _ hni hone hp=>
      simp only [zx] at hx
      split at hx
      · rename_i sz rows hob
        split at hx
        · rename_i hle
          rw [Option.map_eq_some_iff] at hx
          obtain ⟨out,hout,rfl⟩:=hx
          obtain ⟨h2,h3⟩:=z7 hout
          have hll:((rows.drop off).take len).length=len:=by simp;omega
          have hol:out.length=len:=by rw [h2,hll]
          obtain ⟨_,h5⟩:=hp sz rows hob
          rcases h5 with ⟨hn,hr,hval⟩ | ⟨b,cap,c,e,hb,hval,hle2,hw,hcap⟩
          · subst hr
            have:len=0:=by simp at hle;omega
            have ho:out=[]:=List.eq_nil_of_length_eq_zero (by omega)
            subst ho
            rw [hval]
            exact .nil
          · obtain ⟨hz,c',e',hc',hlen,hcells⟩:=R.obj i b _ hb hob
            have key:∀ (i':Nat) (row:List IV) (j:Nat) (x:IV),out[i']?=some row→row[j]?=some x→∃ u,c'[(off+i')*sz+j]?=some u∧u.oneCell'=true∧RI Z' w x u∧i' < len∧row.length=sz∧j < sz:=fun i' row j x hi hj=>by
              have hi':i' < len:=by rw [←hol];exact (List.getElem?_eq_some_iff.1 hi).1
              have hr0:((rows.drop off).take len)[i']?=some (rows[off+i']'(by omega)):=by
                rw [List.getElem?_take_of_lt hi',List.getElem?_drop];simp
              obtain ⟨row',hr1,hr2⟩:=h3 i' _ hr0
              rw [hi] at hr1
              cases hr1
              obtain ⟨hl3,hget3⟩:=z7 hr2
              have hj':j < (rows[off+i']'(by omega)).length:=by rw [←hl3];exact (List.getElem?_eq_some_iff.1 hj).1
              obtain ⟨x',hx1,hx2⟩:=hget3 j ((rows[off+i']'(by omega))[j]) (List.getElem?_eq_getElem hj')
              rw [hj] at hx1
              cases hx1
              have hrow:rows[off+i']?=some (rows[off+i']'(by omega)):=by simp
              obtain ⟨cv,h6,h7,h8⟩:=hcells (off+i') _ j _ hrow (List.getElem?_eq_getElem hj')
              have hsz:=hlen (off+i') _ hrow
              exact ⟨cv,h6,h7,ih _ _ _ hx2 h8,hi',by rw [hl3];exact hsz,by rw [←hsz];exact hj'⟩
            have hrowlen:∀ (i':Nat) (row:List IV),out[i']?=some row→row.length=sz:=fun i' row hi=>by
              have hi':i' < len:=by rw [←hol];exact (List.getElem?_eq_some_iff.1 hi).1
              have hr0:((rows.drop off).take len)[i']?=some (rows[off+i']'(by omega)):=by
                rw [List.getElem?_take_of_lt hi',List.getElem?_drop];simp
              obtain ⟨row',hr1,hr2⟩:=h3 i' _ hr0
              rw [hi] at hr1
              cases hr1
              rw [(z7 hr2).1]
              exact hlen (off+i') _ (by simp)
            rw [hval,←hol]
            refine .slice out b (off*sz) cap sz (fun i' j=>c'.getD ((off+i')*sz+j) undef) (by omega) hrowlen (fun i' row j x hi hj => ?_) (fun i' row j x hi hj => ?_) (fun i' row j x hi hj => ?_)
            · obtain ⟨u,h6,h7,h8,h9,h10,h11⟩:=key i' row j x hi hj
              have hbig:=hO i b sz rows hb hob
              have:(off+i'+1)*sz≤rows.length*sz:=Nat.mul_le_mul_right _ (by omega)
              simp only [Nat.add_mul] at this
              omega
            · obtain ⟨u,h6,h7,h8,h9,h10,h11⟩:=key i' row j x hi hj
              have hu:c'.getD ((off+i')*sz+j) undef=u:=by
                have hlt:(off+i')*sz+j < c'.size:=(Array.getElem?_eq_some_iff.1 h6).1
                simp [hlt] at h6 ⊢
                exact h6
              rw [hu,qv hc']
              refine ⟨?_,h7⟩
              rw [←h6]
              congr 1
              rw [Nat.add_mul]
            · obtain ⟨u,h6,h7,h8,h9,h10,h11⟩:=key i' row j x hi hj
              have hu:c'.getD ((off+i')*sz+j) undef=u:=by
                have hlt:(off+i')*sz+j < c'.size:=(Array.getElem?_eq_some_iff.1 h6).1
                simp [hlt] at h6 ⊢
                exact h6
              rw [hu]
              exact h8
        · cases hx
      · cases hx
    | map i _ hni hone hp=>
      simp only [zx] at hx
      split at hx
      · rename_i es hob
        rw [Option.map_eq_some_iff] at hx
        obtain ⟨out,hout,rfl⟩:=hx
        obtain ⟨h2,h3⟩:=z7 hout
        obtain ⟨b,hb,hval⟩:=hp es hob
        obtain ⟨hz,ces,clock,hw,hl,hr⟩:=R.obj i b _ hb hob
        have key:∀ (j:Nat) (k x:IV),out[j]?=some (k,x)→∃ e,ces[j]?=some e∧IV.key k=some e.key∧RI Z' w x e.val:=fun j k x hj=>by
          have hlt:j < es.length:=by rw [←h2];exact (List.getElem?_eq_some_iff.1 hj).1
          obtain ⟨y,h4,h5⟩:=h3 j es[j] (List.getElem?_eq_getElem hlt)
          rw [hj] at h4
          cases h4
          rw [Option.map_eq_some_iff] at h5
          obtain ⟨z,h6,h7⟩:=h5
          cases h7
          obtain ⟨e,e1,e2,e3⟩:=hr j es[j].1 es[j].2 (by rw [List.getElem?_eq_getElem hlt])
          exact ⟨e,e1,e2,ih _ _ _ h6 e3⟩
        rw [hval]
        have hev:∀ (j:Nat) (e:MapEntry),ces[j]?=some e→(ces[j]?).getD {key:=undef,val:=undef,born:=0}=e:=fun j e h=>by rw [h];rfl
        refine .omap out b ces clock (fun j=>(ces[j]?).getD {key:=undef,val:=undef,born:=0}) (hM i b es hb hob) hw (by rw [hl,h2]) (fun j k x hj => ?_) (fun j k x hj => ?_)
        · obtain ⟨e,e1,e2,e3⟩:=key j k x hj
          rw [hev j e e1]
          exact ⟨e1,e2⟩
        · obtain ⟨e,e1,e2,e3⟩:=key j k x hj
          rw [hev j e e1]
          exact e3
      · cases hx
    | _=>simp [zx] at hx
theorem Kp:∀ (d:Nat) (x:AV) (v:Value) (y:IV),jO d x=true→zx h d x=some y→RV C g h N w x v→RI g.Z w y v:=by
  intro d
  induction d with
  | zero=>intro x v y _ hx;simp [zx] at hx
  | succ d ih=>
    intro x v y hm hx hv
    cases hv with
    | imm z _ hr=>simp [zx] at hx;subst hx;exact hr
    | nil=>simp [zx] at hx;subst hx;exact .nil
    | nnil a cap=>simp [zx] at hx;subst hx;exact vj
    | Zas i rows _ hr _ _=>simp [zx] at hx;subst hx;exact hr
    | agg cs vs hl h1 hr=>
      simp only [zx,Option.map_eq_some_iff] at hx
      simp only [jO] at hm
      obtain ⟨out,hout,rfl⟩:=hx
      obtain ⟨h2,h3⟩:=z7 hout
      refine .agg out vs (by rw [h2];exact hl) h1 fun i c u hc hu => ?_
      have hlt:i < cs.length:=by rw [←h2];exact (List.getElem?_eq_some_iff.1 hc).1
      obtain ⟨c',h4,h5⟩:=h3 i cs[i] (by simp)
      rw [hc] at h4
      cases h4
      exact ih _ _ _ (List.all_eq_true.1 hm _ (List.getElem_mem hlt)) h5 (hr i cs[i] u (by simp) hu)
    | tuple cs vs hl hr=>
      simp only [zx,Option.map_eq_some_iff] at hx
      simp only [jO] at hm
      obtain ⟨out,hout,rfl⟩:=hx
      obtain ⟨h2,h3⟩:=z7 hout
      refine .tuple out vs (by rw [h2];exact hl) fun i c u hc hu => ?_
      have hlt:i < cs.length:=by rw [←h2];exact (List.getElem?_eq_some_iff.1 hc).1
      obtain ⟨c',h4,h5⟩:=h3 i cs[i] (by simp)
      rw [hc] at h4
      cases h4
      exact ih _ _ _ (List.all_eq_true.1 hm _ (List.getElem_mem hlt)) h5 (hr i cs[i] u (by simp) hu)
    | Zal i off len _ hni hone hp=>simp [jO] at hm
    | map=>simp [jO] at hm
    | _=>simp [zx] at hx
theorem xE (R:RH C g h N w) {Z':Nat→Nat} (hB:Below w.heap.size w w') (hZ:∀ b,b < w.heap.size→Z' b=g.Z b):Evo g h N w ⟨g.ρ,Z'⟩ h N w' where
  os:=hB.os
  tape:=hB.tape
  output:=hB.output
  size:=hB.size
  old:=fun b hb _=>⟨hB.block b hb,hZ b hb⟩
  own:=fun b hb=>.inl hb
  zmono:=fun b=>by
    rcases Nat.lt_or_ge b w.heap.size with hb | hb
    · show g.Z b≤Z' b;rw [hZ b hb];exact Nat.le_refl _
    · rcases Nat.eq_zero_or_pos (g.Z b) with h0 | h0
      · omega
      · have:=R.zlt b h0;omega
  cell:=Frz.heap fun b hz=>hB.block b (R.zlt b hz)
  shape:=fun b c e hb=>⟨c,(hB.block b (zR hb)).trans hb,rfl⟩
  next:=fun _ h=>h
  rho:=fun i b hb _ _ _ _=>.inl hb
  rho0:=fun i hb _ _ _ _=>.inl hb
  rows:=fun i _ sz rows h=>⟨rows,h,rfl⟩
  tips:=fun i _ sz len h=>⟨len,h,Nat.le_refl _⟩
  maps:=fun i _ es h=>⟨es,h⟩
  lps:=fun i _ ll RR s pe h=>⟨s,pe,h⟩
theorem yY (R:RH C g h N w) {Z':Nat→Nat} (hB:Below w.heap.size w w') (hZ:∀ b,b < w.heap.size→Z' b=g.Z b) (hlt:∀ b,0 < Z' b→b < w'.heap.size):RH C ⟨g.ρ,Z'⟩ h N w' where
  inj:=R.inj
  lt:=fun i b hb=>⟨Nat.lt_of_lt_of_le (R.lt i b hb).1 hB.size,(R.lt i b hb).2⟩
  key:=R.key
  obj:=fun i b o hb ho=>(R.obj i b o hb ho).keep (xE R hB hZ) (hB.block b (R.lt i b hb).1) (hZ b (R.lt i b hb).1)
  tip0:=R.tip0
  zlt:=hlt
  fix:=R.fix.evo (xE R hB hZ)
def xh:IV→Bool
  | .slice _ | .iface _ _ | .nomap | .omap _=>false
  | .agg cs | .tuple cs=>cs.all fun c=>match c with | .bool _ | .int _ _ | .str _=>true | _=>false
  | _=>true
theorem zbp {Z Z':Nat→Nat} {x:IV} {v:Value} (hf:xh x=true) (hr:RI Z w x v):RI Z' w' x v:=by
  have one:∀ {c:IV} {u:Value},(match c with | .bool _ | .int _ _ | .str _=>true | _=>false)=true→RI Z w c u→RI Z' w' c u:=fun {c u} hc hr=>by
    cases hr<;>first | exact .bool _ | exact .int _ _ | exact .str _ | (simp at hc)
  cases hr with
  | bool b=>exact .bool b
  | int k n=>exact .int k n
  | str s=>exact .str s
  | nil=>simp [xh] at hf
  | empty=>simp [xh] at hf
  | slice=>simp [xh] at hf
  | iface=>simp [xh] at hf
  | nomap=>simp [xh] at hf
  | omap=>simp [xh] at hf
  | agg cs vs hl h1 hr=>exact .agg cs vs hl h1 fun i c u hc hu=>one (List.all_eq_true.1 hf c (List.mem_of_getElem? hc)) (hr i c u hc hu)
  | tuple cs vs hl hr=>exact .tuple cs vs hl fun i c u hc hu=>one (List.all_eq_true.1 hf c (List.mem_of_getElem? hc)) (hr i c u hc hu)
theorem ACall.pure {f:Nat} {args:List AV} {heap:List (Nat×Zaf)} {next d:Nat} {K:AV→List (Nat×Zaf)→Nat→Prop} {ivs:List IV} {r:IV} (hp:APure C f ivs r)
    (hm:(args.all (jO d))=true) (hx:mapO (zx (za heap) d) args=some ivs) (hK:K (.imm r) heap next):ACall C f args heap next K:=by
  refine ⟨hp.1,fun g w vs R hv => ?_⟩
  obtain ⟨h1,h2⟩:=z7 hx
  refine (hp.2 g.Z w vs R.zlt ⟨R.fix.1,R.fix.2.1⟩ ⟨by rw [h1];exact hv.1,fun j c u hc hu => ?_⟩).mono ?_
  · have hlt:j < args.length:=by rw [←h1];exact (List.getElem?_eq_some_iff.1 hc).1
    obtain ⟨c',h3,h4⟩:=h2 j args[j] (by simp)
    rw [hc] at h3
    cases h3
    exact Kp d _ _ _ (List.all_eq_true.1 hm _ (List.getElem_mem hlt)) h4 (hv.2 j args[j] u (by simp) hu)
  · rintro e w' ⟨v,Z',rfl,hr,hZ,hlt,hB⟩
    exact ⟨v,.imm r,heap,next,⟨g.ρ,Z'⟩,rfl,hK,xE R hB hZ,yY R hB hZ hlt,.imm _ _ hr⟩
theorem ACall.snap {f:Nat} {args:List AV} {heap:List (Nat×Zaf)} {next d:Nat} {K:AV→List (Nat×Zaf)→Nat→Prop} {ivs:List IV} {r:IV} (hp:APure C f ivs r)
    (hx:mapO (zx (za heap) d) args=some ivs) (hf:xh r=true) (hK:K (.imm r) heap next):ACall C f args heap next K:=by
  refine ⟨hp.1,fun g w vs R hv => ?_⟩
  obtain ⟨h1,h2⟩:=z7 hx
  let Z1:Nat→Nat:=fun b=>match w.heap[b]? with
    | some (.cells c _ _)=>max (g.Z b) c.size
    | some (.map _ _)=>max (g.Z b) 1
    | _=>g.Z b
  have hz1:∀ b,g.Z b≤Z1 b:=fun b=>by
    show g.Z b≤(match w.heap[b]? with | some (.cells c _ _)=>max (g.Z b) c.size | some (.map _ _)=>max (g.Z b) 1 | _=>g.Z b)
    split
    · exact Nat.le_max_left _ _
    · exact Nat.le_max_left _ _
    · exact Nat.le_refl _
  have hlt1:∀ b,0 < Z1 b→b < w.heap.size:=fun b hb=>by
    rcases Nat.lt_or_ge b w.heap.size with h | h
    · exact h
    · have hn:w.heap[b]?=none:=Array.getElem?_eq_none h
      have:Z1 b=g.Z b:=by show (match w.heap[b]? with | some (.cells c _ _)=>max (g.Z b) c.size | some (.map _ _)=>max (g.Z b) 1 | _=>g.Z b)=g.Z b;rw [hn]
      exact R.zlt b (by omega)
  have hO:∀ i b sz rows,g.ρ i=some b→za heap i=some (.rows sz rows)→rows.length*sz≤Z1 b:=fun i b sz rows hb ho=>by
    obtain ⟨hz,c,e,hc,hlen,hcells⟩:=R.obj i b _ hb ho
    have hZ:Z1 b=max (g.Z b) c.size:=by show (match w.heap[b]? with | some (.cells c _ _)=>max (g.Z b) c.size | some (.map _ _)=>max (g.Z b) 1 | _=>g.Z b)=_;rw [hc]
    rw [hZ]
    refine Nat.le_trans ?_ (Nat.le_max_right _ _)
    rcases Nat.eq_zero_or_pos (rows.length*sz) with h0 | h0
    · omega
    · have hs:0 < sz:=Nat.pos_of_ne_zero fun e=>by subst e;simp at h0
      have hr:0 < rows.length:=Nat.pos_of_ne_zero fun e=>by rw [e] at h0;simp at h0
      have hrow:rows[rows.length - 1]?=some (rows[rows.length - 1]'(by omega)):=by simp
      have hl:=hlen _ _ hrow
      obtain ⟨cv,h3,_⟩:=hcells (rows.length - 1) _ (sz - 1) ((rows[rows.length - 1]'(by omega))[sz - 1]'(by omega)) hrow (by simp)
      have hlt:=(Array.getElem?_eq_some_iff.1 h3).1
      have:(rows.length - 1)*sz+sz=rows.length*sz:=by
        rw [←Nat.succ_mul];congr 1;omega
      omega
  have hM:∀ i b es,g.ρ i=some b→za heap i=some (.map es)→0 < Z1 b:=fun i b es hb ho=>by
    obtain ⟨hz,ces,clock,hw,_⟩:=R.obj i b _ hb ho
    have hZ:Z1 b=max (g.Z b) 1:=by show (match w.heap[b]? with | some (.cells c _ _)=>max (g.Z b) c.size | some (.map _ _)=>max (g.Z b) 1 | _=>g.Z b)=_;rw [hw]
    rw [hZ]
    exact Nat.lt_of_lt_of_le Nat.zero_lt_one (Nat.le_max_right _ _)
  refine (hp.2 Z1 w vs hlt1 ⟨R.fix.1,R.fix.2.1⟩ ⟨by rw [h1];exact hv.1,fun j c u hc hu => ?_⟩).mono ?_
  · have hlt:j < args.length:=by rw [←h1];exact (List.getElem?_eq_some_iff.1 hc).1
    obtain ⟨c',h3,h4⟩:=h2 j args[j] (by simp)
    rw [hc] at h3
    cases h3
    exact Vc R Z1 hz1 hO hM d _ _ _ h4 (hv.2 j args[j] u (by simp) hu)
  · rintro e w' ⟨v,Z',rfl,hr,hZ,hlt,hB⟩
    refine ⟨v,.imm r,heap,next,g,rfl,hK,xE (Z':=g.Z) R hB (fun _ _=>rfl),yY (Z':=g.Z) R hB (fun _ _=>rfl) (fun b hb=>Nat.lt_of_lt_of_le (R.zlt b hb) hB.size),.imm _ _ (zbp hf hr)⟩
theorem ACall.mono {f:Nat} {args:List AV} {heap:List (Nat×Zaf)} {next:Nat} {K K':AV→List (Nat×Zaf)→Nat→Prop} (hk:∀ r h n,K r h n→K' r h n) (hc:ACall C f args heap next K):ACall C f args heap next K':=
  ⟨hc.1,fun g w vs R hv=>(hc.2 g w vs R hv).mono fun e w' ⟨v,r,heap',next',g',h1,h2,h3⟩=>⟨v,r,heap',next',g',h1,hk _ _ _ h2,h3⟩⟩
end
end
section
def qY:Nat→List AV→List (Nat×AV)
  | _,[]=>[]
  | i,x::xs=>(i,x)::qY (i+1) xs
def xX (st:St):ARes→Option AV
  | .tmp t=>za st.env t
  | .cell t ag n=>match evalOp (.load ag n (.t t)) (zd st.env) (za st.heap) 0 with
    | some (r,_)=>some r
    | none=>none
def qO (rs:List ARes) (st:St):Option AV:=match rs with
  | [r]=>xX st r
  | rs=>match mapO (xX st) rs with
    | some xs=>some (.tuple xs)
    | none=>none
section
variable {C:Ctx} {nt:Fr} {g g':Gh} {h h':Nat→Option Zaf} {N N':Nat→Prop} {st st':St} {a:Act} {w w':World}
theorem XY:∀ (args:List AV) (i t:Nat) (x:AV),za (qY i args) t=some x→i≤t∧args[t - i]?=some x
  | [],i,t,x,h=>by simp [qY,za] at h
  | y::ys,i,t,x,h=>by
    simp only [qY,za] at h
    split at h
    · rename_i e;subst e;cases h;simp
    · obtain ⟨h1,h2⟩:=XY ys (i+1) t x h
      refine ⟨by omega,?_⟩
      rw [show t - i=(t - (i+1))+1 by omega]
      simpa using h2
theorem Kq (R:Rel C nt g st a w) {rv:ResultVar} {ar:ARes} (hc:vk C rv=some ar) {x:AV} (hx:xX st ar=some x) :
    ∃ v,((match rv with | .tmp t=>pure (a.tmps.getD t undef) | .cell ad t=>do loadVar t (←asAddr (a.tmps.getD ad undef)):Sem Value)).run C.P w=.ok v w∧RV C g (za st.heap) (· < st.next) w x v:=by
  cases rv with
  | tmp t=>
    simp only [vk,Option.some.injEq] at hc
    subst hc
    exact ⟨_,rfl,R.env.slot t x hx⟩
  | cell ad t=>
    simp only [vk] at hc
    split at hc
    · rename_i ag n h1 h2
      cases hc
      simp only [xX] at hx
      split at hx
      · rename_i r ups he
        cases hx
        have hv:RV C g (za st.heap) (· < st.next) w (zd st.env (.t ad)) (a.tmps.getD ad undef):=yX R (.tmp ad)
        obtain ⟨v,h3,_,h4⟩:=VN h1 h2 R.heap hv he
        refine ⟨v,?_,h4⟩
        have hsure:∃ p,a.tmps.getD ad undef=.pointer (some p):=by
          generalize a.tmps.getD ad undef=q at h3
          cases q with
          | pointer p=>
            cases p with
            | none=>simp [Instr.loadAt,Instr.sureAddr] at h3
            | some p=>exact ⟨p,rfl⟩
          | _=>simp [Instr.loadAt,Instr.sureAddr] at h3
        obtain ⟨p,hp⟩:=hsure
        rw [hp] at h3
        show ((do loadVar t (←asAddr (a.tmps.getD ad undef)):Sem Value)).run C.P w=.ok v w
        rw [hp]
        simpa [Instr.loadAt,Instr.sureAddr,asAddr] using h3
      · cases hx
    · cases hc
theorem YG (R:Rel C nt g st a w) {fn:Func} {rs:List ARes} (hc:mapO (vk C) fn.results.toList=some rs) {x:AV} (hx:qO rs st=some x) :
    ∃ v,(results fn a.tmps).run C.P w=.ok v w∧RV C g (za st.heap) (· < st.next) w x v:=by
  obtain ⟨hl,hg⟩:=z7 hc
  have many:∀ (l:List ResultVar) (rs:List ARes) (xs:List AV),mapO (vk C) l=some rs→mapO (xX st) rs=some xs →
      ∃ vs:List Value,(l.mapM (fun rv=>(match rv with | .tmp t=>pure (a.tmps.getD t undef) | .cell ad t=>do loadVar t (←asAddr (a.tmps.getD ad undef)):Sem Value))).run C.P w=.ok vs w∧vs.length=xs.length ∧
        ∀ (j:Nat) (y:AV) (u:Value),xs[j]?=some y→vs[j]?=some u→RV C g (za st.heap) (· < st.next) w y u:=by
    intro l
    induction l with
    | nil=>
      intro rs xs h1 h2
      simp [mapO] at h1;subst h1
      simp [mapO] at h2;subst h2
      exact ⟨[],by simp,rfl,fun j y u hj=>by simp at hj⟩
    | cons rv l ih=>
      intro rs xs h1 h2
      simp only [mapO] at h1
      split at h1
      · rename_i ar har
        split at h1
        · rename_i rs' hrs'
          cases h1
          simp only [mapO] at h2
          split at h2
          · rename_i y hy
            split at h2
            · rename_i ys hys
              cases h2
              obtain ⟨v,h3,h4⟩:=Kq R har hy
              obtain ⟨vs,h5,h6,h7⟩:=ih rs' ys hrs' hys
              refine ⟨v::vs,?_,by simp [h6],fun j y' u hj hu => ?_⟩
              · simp only [List.mapM_cons,Sem.run_bind,h3,Result.andThen_ok,h5,Sem.run_pure]
              · cases j with
                | zero=>simp at hj hu;subst hj;subst hu;exact h4
                | succ j=>exact h7 j y' u (by simpa using hj) (by simpa using hu)
            · cases h2
          · cases h2
        · cases h1
      · cases h1
  have hrun:∀ vs:List Value,(fn.results.toList.mapM (fun rv=>(match rv with | .tmp t=>pure (a.tmps.getD t undef) | .cell ad t=>do loadVar t (←asAddr (a.tmps.getD ad undef)):Sem Value))).run C.P w=.ok vs w →
      (results fn a.tmps).run C.P w=.ok (if h:vs.toArray.size=1 then vs.toArray[0] else .tuple vs.toArray) w:=fun vs hvs=>by
    have key:∀ (F:ResultVar→Sem Value),(∀ rv,F rv=(match rv with | .tmp t=>pure (a.tmps.getD t undef) | .cell ad t=>do loadVar t (←asAddr (a.tmps.getD ad undef)):Sem Value))→(fn.results.toList.mapM F).run C.P w=.ok vs w:=fun F hF=>by
      rw [funext hF];exact hvs
    unfold results
    rw [Array.mapM_eq_mapM_toList]
    simp only [Sem.run_bind,Sem.run_map]
    rw [key _ (fun rv=>by cases rv<;>rfl)]
    rfl
  unfold qO at hx
  split at hx
  · rename_i ar
    have h1:mapO (xX st) [ar]=some [x]:=by simp [mapO,hx]
    obtain ⟨vs,h2,h3,h4⟩:=many fn.results.toList [ar] [x] hc h1
    obtain ⟨v,rfl⟩:=List.length_eq_one_iff.1 h3
    exact ⟨v,by rw [hrun _ h2];rfl,h4 0 x v rfl rfl⟩
  · rename_i hne
    split at hx
    · rename_i xs hxs
      cases hx
      obtain ⟨vs,h2,h3,h4⟩:=many fn.results.toList rs xs hc hxs
      have hxl:=(z7 hxs).1
      have hn1:¬ vs.toArray.size=1:=by
        intro hc1
        have:rs.length=1:=by rw [←hxl,←h3];simpa using hc1
        obtain ⟨ar,rfl⟩:=List.length_eq_one_iff.1 this
        exact hne ar rfl
      exact ⟨.tuple vs.toArray,by rw [hrun _ h2,dif_neg hn1],.tuple xs vs h3.symm h4⟩
    · cases hx
theorem yZ {f : Nat} {F : AFun} (hF : qt C f = some F.erase) : ∃ fn code, C.P.funcs[C.fnum f]? = some fn ∧ fn.body = some code ∧ (fn.name == "runtime.NumGoroutine") = false ∧ fn.ntmps = F.nt ∧
    comp C F.nt code=some F.body.erase∧mapO (vk C) fn.results.toList=some F.results:=by
  unfold qt at hF
  split at hF
  · rename_i fn hfn
    split at hF
    · rename_i code hcode
      split at hF
      · rename_i ac rs hac hrs
        split at hF
        · cases hF
        · rename_i hname
          simp only [Option.some.injEq,AFun.erase,AFun.mk.injEq] at hF
          obtain ⟨h1,h2,h3⟩:=hF
          subst h2
          subst h3
          exact ⟨fn,code,hfn,hcode,by simpa using hname,h1,by rw [←h1];exact hac,hrs⟩
      · cases hF
    · cases hF
  · cases hF
def ze1 (F:AFun) (K:AV→List (Nat×Zaf)→Nat→Prop):Exit→St→Prop:=fun e st=>(e=.ret∨e=.normal)∧∃ r,qO F.results st=some r∧K r st.heap st.next
structure Shut (Ds:List Nat) (w w2:World):Prop where
  os:w2.os=w.os
  tape:w2.tape=w.tape
  output:w2.output=w.output
  size:w2.heap.size=w.heap.size
  keep:∀ b,b ∉ Ds→w2.heap[b]?=w.heap[b]?
  done:∀ D,D∈Ds→∃ x,w2.heap[D]?=some (.deferred x)
  was:∀ D,D∈Ds→∃ x,w.heap[D]?=some (.deferred x)
theorem Shut.block {Ds:List Nat} {w w2:World} (S:Shut Ds w w2) {b:Nat} {o:Obj} (h:w.heap[b]?=some o) (ho:∀ x,o≠.deferred x):w2.heap[b]?=some o:=by
  by_cases hb:b∈Ds
  · obtain ⟨x,hx⟩:=S.was b hb
    rw [h] at hx;cases hx;exact absurd rfl (ho x)
  · rw [S.keep b hb];exact h
theorem Shut.cell {Ds:List Nat} {w w2:World} (S:Shut Ds w w2) (p:Addr):w2.cell? p=w.cell? p:=by
  by_cases hb:p.block∈Ds
  · obtain ⟨x,hx⟩:=S.was _ hb
    obtain ⟨y,hy⟩:=S.done _ hb
    simp only [World.cell?,hx,hy]
  · simp only [World.cell?,S.keep _ hb]
theorem Shut.frz {Ds:List Nat} {w w2:World} (S:Shut Ds w w2) (Z:Nat→Nat):Frz Z w w2:=⟨fun b o _=>S.cell _,fun b ces clock _ hb=>(S.block hb (by simp)).trans hb.symm⟩
theorem RV.shut {Ds:List Nat} {w w2:World} (S:Shut Ds w w2) {x:AV} {v:Value} (hv:RV C g h N w x v):RV C g h N w2 x v:=by
  induction hv with
  | top v=>exact .top v
  | undef=>exact .undef
  | imm x v hr=>exact .imm x v (hr.mono (fun _=>Nat.le_refl _) (S.frz _))
  | nil=>exact .nil
  | nnil a cap=>exact .nnil a cap
  | Zas id rows v hr hid ht=>
    refine .Zas id rows v (hr.mono (fun _=>Nat.le_refl _) (S.frz _)) hid fun sz len hg => ?_
    obtain ⟨h1,h2,h3⟩:=ht sz len hg
    refine ⟨h1,h2,fun e => ?_⟩
    rcases h3 e with h4 | ⟨b,cap,c,e',h5,h6,h7,h8⟩
    · exact .inl h4
    · exact .inr ⟨b,cap,c,e',h5,h6,S.block h7 (by simp),h8⟩
  | eptr cells b off cv hz hc hr=>
    exact .eptr cells b off cv hz (fun j c h1=>⟨(S.cell _).trans (hc j c h1).1,(hc j c h1).2⟩) (fun j c h1=>(hr j c h1).mono (fun _=>Nat.le_refl _) (S.frz _))
  | ptr id row off v hid h1 hp=>exact .ptr id row off v hid h1 hp
  | Zal id off len v hid h1 hp=>
    refine .Zal id off len v hid h1 fun sz rows hg => ?_
    obtain ⟨h2,h3⟩:=hp sz rows hg
    refine ⟨h2,?_⟩
    rcases h3 with h4 | ⟨b,cap,c,e',h5,h6,h7,h8,h9⟩
    · exact .inl h4
    · exact .inr ⟨b,cap,c,e',h5,h6,h7,S.block h8 (by simp),h9⟩
  | func f first caps vf vc hlf hlc hf hc ihf ihc=>exact .func f first caps vf vc hlf hlc ihf ihc
  | map id v hid h1 hp=>exact .map id v hid h1 hp
  | agg cs vs hl h1 hr ih=>exact .agg cs vs hl h1 ih
  | tuple cs vs hl hr ih=>exact .tuple cs vs hl ih
  | yld l id hid hp=>exact .yld l id hid hp
theorem RH.shut {Ds:List Nat} {w w2:World} (S:Shut Ds w w2) (F:C.Fix g w2) (R:RH C g h N w):RH C g h N w2 where
  inj:=R.inj
  lt:=fun i b hb=>⟨by rw [S.size];exact (R.lt i b hb).1,(R.lt i b hb).2⟩
  key:=R.key
  obj:=fun i b o hb ho=>by
    have H:=R.obj i b o hb ho
    cases o with
    | rows sz rows=>
      obtain ⟨h0,c,e,h1,h2,h3⟩:=H
      refine ⟨h0,c,e,S.block h1 (by simp),h2,fun i row j x hi hj => ?_⟩
      obtain ⟨cv,h4,h5,h6⟩:=h3 i row j x hi hj
      exact ⟨cv,h4,h5,h6.shut S⟩
    | tip sz len=>obtain ⟨c,e,h1,h2,h3⟩:=H;exact ⟨c,e,S.block h1 (by simp),h2,h3⟩
    | map es=>
      obtain ⟨h0,ces,clock,h1,h2,h3⟩:=H
      refine ⟨h0,ces,clock,S.block h1 (by simp),h2,fun i k x hi => ?_⟩
      obtain ⟨e,h4,h5,h6⟩:=h3 i k x hi
      exact ⟨e,h4,h5,h6.shut S⟩
    | dead=>trivial
    | lp l R s pe=>exact ⟨H.1,H.2.1,S.block H.2.2 (by simp)⟩
  tip0:=R.tip0
  zlt:=fun b hb=>by rw [S.size];exact R.zlt b hb
  fix:=F
theorem Evo.shut {Ds:List Nat} {w0 w w2:World} (S:Shut Ds w w2) (hD:∀ D∈Ds,w0.heap.size≤D) (E:Evo g h N w0 g' h' N' w):Evo g h N w0 g' h' N' w2 where
  os:=S.os.trans E.os
  tape:=S.tape.trans E.tape
  output:=S.output.trans E.output
  size:=by rw [S.size];exact E.size
  old:=fun b hb ho=>⟨(S.keep b (fun hm=>by have:=hD b hm;omega)).trans (E.old b hb ho).1,(E.old b hb ho).2⟩
  own:=E.own
  zmono:=E.zmono
  cell:=⟨fun b o ho=>(S.cell _).trans (E.cell.c b o ho),fun b ces clock hz hb=>by
    have h1:=E.cell.m b ces clock hz hb
    rw [hb] at h1 ⊢
    exact S.block h1 (by simp)⟩
  shape:=fun b c e hb=>by
    obtain ⟨c',h1,h2⟩:=E.shape b c e hb
    exact ⟨c',S.block h1 (by simp),h2⟩
  next:=E.next
  rho:=E.rho
  rho0:=E.rho0
  rows:=E.rows
  tips:=E.tips
  maps:=E.maps
  lps:=E.lps
theorem QK {P:Program} {fn:Func} {tmps:Array Value} {R:Ending→World→Prop}:∀ (Ds:List Nat) (w:World),Ds.Nodup→(∀ D∈Ds,w.heap[D]?=some (.deferred (some []))) →
    (∀ w2,Shut Ds w w2→∃ v,(results fn tmps).run P w2=.ok v w2∧R (.returned v) w2)→LeavesInM Fence.wide 0 P fn tmps R (Ds.map fun D=>{target:=.collected D,args := #[]}) .returning w
  | [],w,_,_,h=>h w ⟨rfl,rfl,rfl,rfl,fun _ _=>rfl,fun _ h=>(by cases h),fun _ h=>(by cases h)⟩
  | D::Ds,w,hn,hD,h=>by
    obtain ⟨n1,n2⟩:=List.nodup_cons.1 hn
    have h0:=hD D (by simp)
    have hlt:D < w.heap.size:=(Array.getElem?_eq_some_iff.1 h0).1
    refine ⟨by simp,.inl ⟨D,w.putObj D (.deferred none),rfl,run_takeDeferred h0,?_⟩⟩
    have hrest:∀ E∈Ds,(w.putObj D (.deferred none)).heap[E]?=some (.deferred (some [])):=fun E hE=>by
      have hne:E≠D:=fun e=>n1 (by rw [←e];exact hE)
      rw [World.putObj_heap_other hne];exact hD E (by simp [hE])
    refine QK Ds _ n2 hrest fun w2 S=>h w2 ⟨S.os,S.tape,S.output,by rw [S.size];simp,fun b hb => ?_,fun E hE => ?_,fun E hE=>⟨_,hD E hE⟩⟩
    · simp only [List.mem_cons,not_or] at hb
      rw [S.keep b hb.2,World.putObj_heap_other hb.1]
    · by_cases hm:E∈Ds
      · exact S.done E hm
      · rcases List.mem_cons.1 hE with rfl | hE
        · exact ⟨none,by rw [S.keep _ hm];exact World.putObj_heap_same hlt⟩
        · exact absurd hE hm
theorem Xb {C:CtxY} (hro:C.ro=none) {f:Nat} {F:AFun} (hF:qt C f=some F.erase) {args:List AV} {heap:List (Nat×Zaf)} {next:Nat} {K:AV→List (Nat×Zaf)→Nat→Prop} (hn:args.length≤F.nt)
    (h:∀ B,awp C ⟨F.nt,B⟩ F.body (ze1 F K) {env:=qY 0 args,heap:=heap,next:=next}) {g:Gh} {w:World} {vs:List Value} (R:RH C g (za heap) (· < next) w) (hv:RVs C g (za heap) (· < next) w args vs) (hI:C.inv g ⟨[],heap,next⟩ w) :
    Calls C.P (C.fnum f) vs.toArray w fun e w'=>∃ v r heap' next' g',e=.returned v∧K r heap' next' ∧
      Evo g (za heap) (· < next) w g' (za heap') (· < next') w'∧RH C g' (za heap') (· < next') w'∧RV C g' (za heap') (· < next') w' r v:=by
  obtain ⟨fn,code,hfn,hcode,hname,hnt,hcomp,hres⟩:=yZ hF
  refine callsIn_wide.1 (callsIn_of_wp_marks (n:=0) hfn hcode trivial ?_)
  have hsz:vs.length≤F.nt:=by rw [←hv.1];exact hn
  have R0:Rel C ⟨F.nt,w.heap.size⟩ g {env:=qY 0 args,heap:=heap,next:=next} {tmps:=vs.toArray++Array.replicate (fn.ntmps - vs.toArray.size) undef,defers:=[]} w:=by
    refine ⟨⟨by simp [hnt];omega,Marks.nil _ (Nat.le_refl _),fun t x hx => ?_⟩,R⟩
    obtain ⟨_,h2⟩:=XY args 0 t x hx
    simp only [Nat.sub_zero] at h2
    have hlt:t < vs.length:=by rw [←hv.1];exact (List.getElem?_eq_some_iff.1 h2).1
    have hget:(vs.toArray++Array.replicate (fn.ntmps - vs.toArray.size) undef).getD t undef=vs[t]:=by
      simp [Array.getElem?_append,hlt]
    show RV C g (za heap) (· < next) w x ((vs.toArray++Array.replicate (fn.ntmps - vs.toArray.size) undef).getD t undef)
    rw [hget]
    exact hv.2 t x vs[t] h2 (by simp)
  have hb:=h w.heap.size code hcomp g _ w R0 hI
  rw [hro] at hb
  refine Code.wpIn_mono ?_ hb
  rintro e a' w' ⟨st',g',⟨he,r,hr,hK⟩,R',E⟩
  have hD:=R'.env.defers
  obtain ⟨hd0,Ds,hd1,hd2,hd3⟩:=hD
  have key:LeavesInM Fence.wide 0 C.P fn a'.tmps (fun e w'=>∃ v r heap' next' g',e=.returned v∧K r heap' next'∧Evo g (za heap) (· < next) w g' (za heap') (· < next') w'∧RH C g' (za heap') (· < next') w'∧RV C g' (za heap') (· < next') w' r v) a'.defers .returning w':=by
    rw [hd1]
    refine QK Ds w' hd2 (fun D hD=>(hd3 D hD).2.1) fun w2 S => ?_
    have R2:Rel C ⟨F.nt,w.heap.size⟩ g' st' {a' with defers:=[]} w2:=⟨⟨R'.env.size,Marks.nil _ (by rw [S.size];exact hd0),fun t x hx=>(R'.env.slot t x hx).shut S⟩,R'.heap.shut S (R.fix.evo (E.shut S (fun D hD=>(hd3 D hD).1)))⟩
    obtain ⟨v,h1,h2⟩:=YG R2 hres hr
    exact ⟨v,h1,v,r,st'.heap,st'.next,g',rfl,hK,E.shut S (fun D hD=>(hd3 D hD).1),R2.heap,h2⟩
  rcases he with rfl | rfl
  · exact key
  · exact key
theorem ACall.enter {C:Ctx} {f:Nat} {F:AFun} (hF:qt C f=some F.erase) {args:List AV} {heap:List (Nat×Zaf)} {next:Nat} {K:AV→List (Nat×Zaf)→Nat→Prop} (hn:args.length≤F.nt)
    (h:∀ B,awp C.plain ⟨F.nt,B⟩ F.body (ze1 F K) {env:=qY 0 args,heap:=heap,next:=next}):ACall C f args heap next K:=by
  obtain ⟨fn,code,hfn,hcode,hname,_⟩:=yZ hF
  exact ⟨⟨fn,hfn,by simp [hcode],hname⟩,fun g w vs R hv=>Xb (C:=C.plain) rfl hF hn h R hv trivial⟩
theorem APure.of {f:Nat} {args:List IV} {r:IV} {d:Nat} (hc:ACall C f (args.map .imm) [] 0 fun x heap _=>zx (za heap) d x=some r):APure C f args r:=by
  refine ⟨hc.1,fun Z w vs hz hf hv => ?_⟩
  have R:RH C ⟨fun _=>none,Z⟩ (za []) (· < 0) w:=⟨fun i j b h=>(by cases h),fun i b h=>(by cases h),fun i o h=>(by simp [za] at h),fun i b o h=>(by cases h),fun i sz len h=>(by simp [za] at h),hz,hf.1,hf.2,fun b hb ⟨i,hi⟩=>(by cases hi)⟩
  refine (hc.2 _ w vs R ⟨by simpa using hv.1,fun j x u hx hu => ?_⟩).mono ?_
  · simp only [List.getElem?_map,Option.map_eq_some_iff] at hx
    obtain ⟨y,hy,rfl⟩:=hx
    exact .imm _ _ (hv.2 j y u hy hu)
  · rintro e w' ⟨v,x,heap',next',g',rfl,hK,E,R',hx⟩
    have noOwn:∀ b,¬ wJ (⟨fun _=>none,Z⟩:Gh) b:=fun b ⟨i,hi⟩=>(by cases hi)
    let Z1:Nat→Nat:=fun b=>if b < w.heap.size then Z b else match w'.heap[b]? with
      | some (.cells c _ _)=>max (g'.Z b) c.size
      | some (.map _ _)=>max (g'.Z b) 1
      | _=>g'.Z b
    have hz1:∀ b,g'.Z b≤Z1 b:=fun b=>by
      show g'.Z b≤(if b < w.heap.size then Z b else match w'.heap[b]? with | some (.cells c _ _)=>max (g'.Z b) c.size | some (.map _ _)=>max (g'.Z b) 1 | _=>g'.Z b)
      split
      · rename_i hb;rw [(E.old b hb (noOwn b)).2];exact Nat.le_refl _
      · split
        · exact Nat.le_max_left _ _
        · exact Nat.le_max_left _ _
        · exact Nat.le_refl _
    have hO:∀ i b sz rows,g'.ρ i=some b→za heap' i=some (.rows sz rows)→rows.length*sz≤Z1 b:=fun i b sz rows hb ho=>by
      obtain ⟨hz,c,e,hc,hlen,hcells⟩:=R'.obj i b _ hb ho
      have hnew:¬ b < w.heap.size:=by
        rcases E.own b ⟨i,hb⟩ with h | h
        · exact absurd h (noOwn b)
        · omega
      have hZ:Z1 b=max (g'.Z b) c.size:=by
        show (if b < w.heap.size then Z b else match w'.heap[b]? with | some (.cells c _ _)=>max (g'.Z b) c.size | some (.map _ _)=>max (g'.Z b) 1 | _=>g'.Z b)=_
        rw [if_neg hnew,hc]
      rw [hZ]
      refine Nat.le_trans ?_ (Nat.le_max_right _ _)
      rcases Nat.eq_zero_or_pos (rows.length*sz) with h0 | h0
      · omega
      · have hs:0 < sz:=Nat.pos_of_ne_zero fun e=>by subst e;simp at h0
        have hr:0 < rows.length:=Nat.pos_of_ne_zero fun e=>by rw [e] at h0;simp at h0
        have hrow:rows[rows.length - 1]?=some (rows[rows.length - 1]'(by omega)):=by simp
        have hl:=hlen _ _ hrow
        obtain ⟨cv,h3,_⟩:=hcells (rows.length - 1) _ (sz - 1) ((rows[rows.length - 1]'(by omega))[sz - 1]'(by omega)) hrow (by simp)
        have hlt:=(Array.getElem?_eq_some_iff.1 h3).1
        have:(rows.length - 1)*sz+sz=rows.length*sz:=by
          rw [←Nat.succ_mul];congr 1;omega
        omega
    have hM:∀ i b es,g'.ρ i=some b→za heap' i=some (.map es)→0 < Z1 b:=fun i b es hb ho=>by
      obtain ⟨hz,ces,clock,hw,_⟩:=R'.obj i b _ hb ho
      have hnew:¬ b < w.heap.size:=by
        rcases E.own b ⟨i,hb⟩ with h | h
        · exact absurd h (noOwn b)
        · omega
      have hZ:Z1 b=max (g'.Z b) 1:=by
        show (if b < w.heap.size then Z b else match w'.heap[b]? with | some (.cells c _ _)=>max (g'.Z b) c.size | some (.map _ _)=>max (g'.Z b) 1 | _=>g'.Z b)=_
        rw [if_neg hnew,hw]
      rw [hZ]
      exact Nat.lt_of_lt_of_le Nat.zero_lt_one (Nat.le_max_right _ _)
    refine ⟨v,Z1,rfl,Vc R' Z1 hz1 hO hM d _ _ _ hK hx,fun b hb => ?_,fun b hb => ?_,⟨E.os,E.tape,E.output,E.size,fun k hk=>(E.old k hk (noOwn k)).1⟩⟩
    · show (if b < w.heap.size then Z b else match w'.heap[b]? with | some (.cells c _ _)=>max (g'.Z b) c.size | some (.map _ _)=>max (g'.Z b) 1 | _=>g'.Z b)=Z b
      rw [if_pos hb]
    · rcases Nat.lt_or_ge b w'.heap.size with h | h
      · exact h
      · have hn:w'.heap[b]?=none:=Array.getElem?_eq_none h
        have hb':Z1 b=g'.Z b:=by
          show (if b < w.heap.size then Z b else match w'.heap[b]? with | some (.cells c _ _)=>max (g'.Z b) c.size | some (.map _ _)=>max (g'.Z b) 1 | _=>g'.Z b)=_
          have:=E.size
          rw [if_neg (by omega),hn]
        exact R'.zlt b (by omega)
end
end
section
def zF (m:Nat):AV→Bool
  | .Zas i _=>decide (i < m)
  | .ptr i _ _=>decide (i < m)
  | .Zal i _ _=>decide (i < m)
  | .map i=>decide (i < m)
  | .yld _ i=>decide (i < m)
  | .func _ _ _ | .agg _ | .tuple _=>false
  | _=>true
def xa (m:Nat):AV→Bool
  | .func _ first caps=>first.all (zF m)&&caps.all (zF m)
  | .agg cs=>cs.all (zF m)
  | .tuple cs=>cs.all (zF m)
  | x=>zF m x
def zL (m:Nat):AV→Bool
  | .tuple cs=>cs.all (xa m)
  | x=>xa m x
def zM (m:Nat):Zaf→Prop
  | .rows _ rows=>∀ row∈rows,∀ x∈row,zL m x=true
  | .tip _ _=>True
  | .map es=>∀ e∈es,zL m e.2=true
  | .dead=>True
  | .lp _ _ _ _=>True
section
variable {C:Ctx} {nt:Fr} {g g':Gh} {h h':Nat→Option Zaf} {N N':Nat→Prop} {st st':St} {a:Act} {w w':World} {m:Nat}
def Gh.below (g:Gh) (m:Nat):Gh:=⟨fun i=>if i < m then g.ρ i else none,g.Z⟩
theorem RV.leaf (hh:∀ i o,h' i=some o→h i=some o) {x:AV} {v:Value} (hb:zF m x=true) (hv:RV C g h N w x v):RV C (g.below m) h' (· < m) w x v:=by
  cases hv with
  | top v=>exact .top v
  | undef=>exact .undef
  | imm x v hr=>exact .imm x v hr
  | nil=>exact .nil
  | nnil a cap=>exact .nnil a cap
  | yld l i hid hp=>
    have him:i < m:=by simpa [zF] using hb
    refine .yld l i him fun R s pe hg => ?_
    simp only [Gh.below,if_pos him]
    exact hp R s pe (hh i _ hg)
  | Zas i rows v hr hid ht=>
    have him:i < m:=by simpa [zF] using hb
    refine .Zas i rows v hr him fun sz len hg => ?_
    obtain ⟨h1,h2,h3⟩:=ht sz len (hh i _ hg)
    refine ⟨h1,h2,fun e => ?_⟩
    simp only [Gh.below,if_pos him]
    exact h3 e
  | eptr cells b off cv hz hc hr=>exact .eptr cells b off cv hz hc hr
  | ptr i row off v hid h1 hp=>
    have him:i < m:=by simpa [zF] using hb
    refine .ptr i row off v him h1 fun sz rows hg => ?_
    simp only [Gh.below,if_pos him]
    exact hp sz rows (hh i _ hg)
  | Zal i off len v hid h1 hp=>
    have him:i < m:=by simpa [zF] using hb
    refine .Zal i off len v him h1 fun sz rows hg => ?_
    simp only [Gh.below,if_pos him]
    exact hp sz rows (hh i _ hg)
  | map i v hid h1 hp=>
    have him:i < m:=by simpa [zF] using hb
    refine .map i v him h1 fun es hg => ?_
    simp only [Gh.below,if_pos him]
    exact hp es (hh i _ hg)
  | func=>simp [zF] at hb
  | agg=>simp [zF] at hb
  | tuple=>simp [zF] at hb
theorem RV.restrict1 (hh:∀ i o,h' i=some o→h i=some o) {x:AV} {v:Value} (hb:xa m x=true) (hv:RV C g h N w x v):RV C (g.below m) h' (· < m) w x v:=by
  cases hv with
  | func f first caps vf vc hlf hlc hf hc=>
    simp only [xa,Bool.and_eq_true,List.all_eq_true] at hb
    exact .func f first caps vf vc hlf hlc (fun i c v h1 h2=>(hf i c v h1 h2).leaf hh (hb.1 c (List.mem_of_getElem? h1))) (fun i c v h1 h2=>(hc i c v h1 h2).leaf hh (hb.2 c (List.mem_of_getElem? h1)))
  | agg cs vs hl h1 hr=>
    simp only [xa,List.all_eq_true] at hb
    exact .agg cs vs hl h1 fun i c v h2 h3=>(hr i c v h2 h3).leaf hh (hb c (List.mem_of_getElem? h2))
  | tuple cs vs hl hr=>
    simp only [xa,List.all_eq_true] at hb
    exact .tuple cs vs hl fun i c v h2 h3=>(hr i c v h2 h3).leaf hh (hb c (List.mem_of_getElem? h2))
  | top v=>exact .top v
  | undef=>exact .undef
  | imm x v hr=>exact .imm x v hr
  | nil=>exact .nil
  | nnil a cap=>exact .nnil a cap
  | yld l i hid hp=>exact RV.leaf hh hb (.yld l i hid hp)
  | Zas i rows v hr hid ht=>exact RV.leaf hh hb (.Zas i rows v hr hid ht)
  | eptr cells b off cv hz hc hr=>exact .eptr cells b off cv hz hc hr
  | ptr i row off v hid h1 hp=>exact RV.leaf hh hb (.ptr i row off v hid h1 hp)
  | Zal i off len v hid h1 hp=>exact RV.leaf hh hb (.Zal i off len v hid h1 hp)
  | map i v hid h1 hp=>exact RV.leaf hh hb (.map i v hid h1 hp)
theorem RV.restrict (hh:∀ i o,h' i=some o→h i=some o) {x:AV} {v:Value} (hb:zL m x=true) (hv:RV C g h N w x v):RV C (g.below m) h' (· < m) w x v:=by
  cases hv with
  | tuple cs vs hl hr=>
    simp only [zL,List.all_eq_true] at hb
    exact .tuple cs vs hl fun i c v h2 h3=>(hr i c v h2 h3).restrict1 hh (hb c (List.mem_of_getElem? h2))
  | func f first caps vf vc hlf hlc hf hc=>exact RV.restrict1 hh hb (.func f first caps vf vc hlf hlc hf hc)
  | agg cs vs hl h1 hr=>exact RV.restrict1 hh hb (.agg cs vs hl h1 hr)
  | top v=>exact .top v
  | undef=>exact .undef
  | imm x v hr=>exact .imm x v hr
  | nil=>exact .nil
  | nnil a cap=>exact .nnil a cap
  | yld l i hid hp=>exact RV.leaf hh hb (.yld l i hid hp)
  | Zas i rows v hr hid ht=>exact RV.leaf hh hb (.Zas i rows v hr hid ht)
  | eptr cells b off cv hz hc hr=>exact .eptr cells b off cv hz hc hr
  | ptr i row off v hid h1 hp=>exact RV.leaf hh hb (.ptr i row off v hid h1 hp)
  | Zal i off len v hid h1 hp=>exact RV.leaf hh hb (.Zal i off len v hid h1 hp)
  | map i v hid h1 hp=>exact RV.leaf hh hb (.map i v hid h1 hp)
theorem RH.restrict (R:RH C g h N w) (hN:∀ i,i < m→N i∨h' i=none) (hh:∀ i o,h' i=some o→h i=some o∧i < m∧zM m o):RH C (g.below m) h' (· < m) w:=by
  have hh1:∀ i o,h' i=some o→h i=some o:=fun i o ho=>(hh i o ho).1
  have hr:∀ i b,(g.below m).ρ i=some b→i < m∧g.ρ i=some b:=fun i b hb=>by
    simp only [Gh.below] at hb
    split at hb
    · rename_i him;exact ⟨him,hb⟩
    · cases hb
  refine ⟨fun i j b hi hj=>R.inj i j b (hr i b hi).2 (hr j b hj).2,fun i b hb=>⟨(R.lt i b (hr i b hb).2).1,(hr i b hb).1⟩,fun i o ho=>(hh i o ho).2.1,fun i b o hb ho => ?_,fun i sz len ho hn => ?_,R.zlt,R.fix.1,R.fix.2.1,fun b hb ⟨i,hi⟩=>R.fix.2.2 b hb ⟨i,(hr i b hi).2⟩⟩
  · have H:=R.obj i b o (hr i b hb).2 (hh1 i o ho)
    have hbel:=(hh i o ho).2.2
    cases o with
    | rows sz rows=>
      obtain ⟨h0,c,e,h1,h2,h3⟩:=H
      refine ⟨h0,c,e,h1,h2,fun k row j x hk hj => ?_⟩
      obtain ⟨cv,h4,h5,h6⟩:=h3 k row j x hk hj
      exact ⟨cv,h4,h5,h6.restrict hh1 (hbel row (List.mem_of_getElem? hk) x (List.mem_of_getElem? hj))⟩
    | tip sz len=>exact H
    | dead=>trivial
    | lp l R s pe=>exact H
    | map es=>
      obtain ⟨h0,ces,clock,h1,h2,h3⟩:=H
      refine ⟨h0,ces,clock,h1,h2,fun k kk x hk => ?_⟩
      obtain ⟨e,h4,h5,h6⟩:=h3 k kk x hk
      exact ⟨e,h4,h5,h6.restrict hh1 (hbel (kk,x) (List.mem_of_getElem? hk))⟩
  · have him:=(hh i _ ho).2.1
    simp only [Gh.below,if_pos him] at hn
    exact R.tip0 i sz len (hh1 i _ ho) hn
theorem qZ {α:Type}:∀ {l:List (Nat×α)} {i:Nat} {x:α},za l i=some x→(i,x)∈l
  | [],i,x,h=>by simp [za] at h
  | (k,v)::r,i,x,h=>by
    simp only [za] at h
    split at h
    · rename_i e;subst e;cases h;exact List.mem_cons_self
    · exact List.mem_cons_of_mem _ (qZ h)
theorem Jz {st st':St} (hn:st'.next≤st.next) (he:∀ p∈st'.env,za st.env p.1=some p.2∧zL st'.next p.2=true)
    (hh:∀ p∈st'.heap,za st.heap p.1=some p.2∧p.1 < st'.next∧zM st'.next p.2):Weak st st':=by
  intro C nt g a w R
  have hh':∀ i o,za st'.heap i=some o→za st.heap i=some o∧i < st'.next∧zM st'.next o:=fun i o ho=>hh (i,o) (qZ ho)
  have hh1:∀ i o,za st'.heap i=some o→za st.heap i=some o:=fun i o ho=>(hh' i o ho).1
  refine ⟨g.below st'.next,⟨⟨R.env.size,R.env.defers.sub (fun b ⟨i,hi⟩=>⟨i,by simp only [Gh.below] at hi;split at hi;exact hi;cases hi⟩),fun t x hx => ?_⟩,R.heap.restrict (fun i hi=>.inl (Nat.lt_of_lt_of_le hi hn)) hh'⟩,fun g0 st0 w0 hm E => ?_⟩
  · obtain ⟨h1,h2⟩:=he (t,x) (qZ hx)
    exact (R.env.slot t x h1).restrict hh1 h2
  · have hr:∀ i,i < st'.next→(g.below st'.next).ρ i=g.ρ i:=fun i hi=>by simp only [Gh.below,if_pos hi]
    exact {
      os:=E.os
      tape:=E.tape
      output:=E.output
      size:=E.size
      old:=E.old
      own:=fun b ⟨i,hi⟩=>by
        simp only [Gh.below] at hi
        split at hi
        · exact E.own b ⟨i,hi⟩
        · cases hi
      zmono:=E.zmono
      cell:=E.cell
      shape:=E.shape
      next:=fun i hi=>Nat.lt_of_lt_of_le hi hm
      rho:=fun i b hb o ho hnd hi=>by
        rw [hr i (Nat.lt_of_lt_of_le hi hm)]
        exact E.rho i b hb o (hh1 i o ho) hnd hi
      rho0:=fun i hb hi o ho hnd=>by
        rw [hr i (Nat.lt_of_lt_of_le hi hm)]
        exact E.rho0 i hb hi o (hh1 i o ho) hnd
      rows:=fun i hi sz rows ho=>E.rows i hi sz rows (hh1 i _ ho)
      tips:=fun i hi sz len ho=>E.tips i hi sz len (hh1 i _ ho)
      maps:=fun i hi es ho=>E.maps i hi es (hh1 i _ ho)
      lps:=fun i hi ll RR s pe ho=>E.lps i hi ll RR s pe (hh1 i _ ho)}
theorem ze2 {st:St} {t sz:Nat} (ht:za st.env t=some .nil) :
    Weak st {env:=zj st.env t (.Zas st.next []),heap:=zJ st.heap st.next (.tip sz 0),next:=st.next+1}:=by
  intro C nt g a w R
  obtain ⟨g',E,H,hv⟩:=QE (id:=st.next) R.heap (Nat.lt_irrefl _) sz
  rw [jA] at E H hv
  have e1:hup [(st.next,Zaf.tip sz 0)] (za st.heap)=za (zJ st.heap st.next (.tip sz 0)):=by
    funext i;simp only [hup,z6]
  rw [e1] at E H hv
  refine ⟨g',⟨⟨R.env.size,R.env.defers.evo E,fun t' x hx => ?_⟩,H⟩,fun g0 st0 w0 hm E0=>E0.trans E⟩
  rw [zo] at hx
  split at hx
  · rename_i e
    subst e
    cases hx
    have:=R.env.slot t _ ht
    rw [xg this]
    exact hv
  · exact (R.env.slot t' x hx).mono E
end
end
structure Rec where
  dst:Option Nat
  r:AV
  ups:List (Nat×Zaf)
  rd:List Nat
  ex:List Nat
def wQ (f:Nat→Option AV):Option Nat→AV→Nat→Option AV
  | none,_=>f
  | some d,x=>fun t=>if d=t then some x else f t
def qJ:List Rec→(Nat→Bool)→Nat→(Nat→Option AV)→Nat→Option AV
  | [],_,_,f=>f
  | rc::rs,L,k,f=>qJ rs L (k+1) (if L k then wQ f rc.dst rc.r else f)
def qa:List Rec→(Nat→Bool)→Nat→(Nat→Option Zaf)→Nat→Option Zaf
  | [],_,_,h=>h
  | rc::rs,L,k,h=>qa rs L (k+1) (if L k then hup rc.ups h else h)
def z1 (ups:List (Nat×Zaf)):List Nat:=ups.map (·.1)
theorem wv:∀ {ups:List (Nat×Zaf)} {h:Nat→Option Zaf} {i:Nat},i ∉ z1 ups→hup ups h i=h i
  | [],_,_,_=>rfl
  | (k,o)::r,h,i,hi=>by
    simp only [z1,List.map_cons,List.mem_cons,not_or] at hi
    simp only [hup]
    rw [if_neg (fun e=>hi.1 e.symm)]
    exact wv hi.2
theorem Kr:∀ {ups:List (Nat×Zaf)} {h h':Nat→Option Zaf} {i:Nat},i∈z1 ups→hup ups h i=hup ups h' i
  | [],_,_,_,hi=>by simp [z1] at hi
  | (k,o)::r,h,h',i,hi=>by
    simp only [hup]
    split
    · rfl
    · rename_i e
      simp only [z1,List.map_cons,List.mem_cons] at hi
      rcases hi with hi | hi
      · exact absurd hi.symm e
      · exact Kr hi
theorem xY {t:Nat}:∀ (recs:List Rec) (L1 L2:Nat→Bool) (k:Nat) (f1 f2:Nat→Option AV),(∀ (j:Nat) (rc:Rec),recs[j]?=some rc→rc.dst=some t→L1 (k+j)=L2 (k+j))→f1 t=f2 t →
    qJ recs L1 k f1 t=qJ recs L2 k f2 t
  | [],_,_,_,_,_,_,e=>e
  | rc::rs,L1,L2,k,f1,f2,hc,e=>by
    refine xY rs L1 L2 (k+1) _ _ (fun j rc' hj hd=>by have:=hc (j+1) rc' (by simpa using hj) hd;rwa [show k+(j+1)=k+1+j by omega] at this) ?_
    by_cases hd:rc.dst=some t
    · have:=hc 0 rc rfl hd
      simp only [Nat.add_zero] at this
      rw [this]
      split
      · simp [hd,wQ]
      · exact e
    · have hp:∀ f:Nat→Option AV,wQ f rc.dst rc.r t=f t:=fun f=>by
        cases hdd:rc.dst with
        | none=>rfl
        | some d=>simp only [wQ];rw [if_neg (fun e=>hd (by rw [hdd,e]))]
      have h1:(if L1 k then wQ f1 rc.dst rc.r else f1) t=f1 t:=by split<;>simp [hp]
      have h2:(if L2 k then wQ f2 rc.dst rc.r else f2) t=f2 t:=by split<;>simp [hp]
      rw [h1,h2,e]
theorem vS {i:Nat}:∀ (recs:List Rec) (L1 L2:Nat→Bool) (k:Nat) (h1 h2:Nat→Option Zaf),(∀ (j:Nat) (rc:Rec),recs[j]?=some rc→i∈z1 rc.ups→L1 (k+j)=L2 (k+j))→h1 i=h2 i →
    qa recs L1 k h1 i=qa recs L2 k h2 i
  | [],_,_,_,_,_,_,e=>e
  | rc::rs,L1,L2,k,h1,h2,hc,e=>by
    refine vS rs L1 L2 (k+1) _ _ (fun j rc' hj hd=>by have:=hc (j+1) rc' (by simpa using hj) hd;rwa [show k+(j+1)=k+1+j by omega] at this) ?_
    by_cases hd:i∈z1 rc.ups
    · have:=hc 0 rc rfl hd
      simp only [Nat.add_zero] at this
      rw [this]
      split
      · exact Kr hd
      · exact e
    · have h3:(if L1 k then hup rc.ups h1 else h1) i=h1 i:=by split<;>simp [wv hd]
      have h4:(if L2 k then hup rc.ups h2 else h2) i=h2 i:=by split<;>simp [wv hd]
      rw [h3,h4,e]
def vn (L:Nat→Bool) (i:Nat):Nat→Bool:=fun k=>if k=i then true else L k
theorem xp (L:Nat→Bool) {i k:Nat} (h:k≠i):vn L i k=L k:=by simp only [vn];rw [if_neg h]
theorem yM (L:Nat→Bool) (i:Nat):vn L i i=true:=by simp [vn]
theorem V1:∀ (recs:List Rec) (L:Nat→Bool) (k i:Nat) (rc:Rec) (f:Nat→Option AV) (t:Nat),recs[i]?=some rc→(∀ (j:Nat) (rj:Rec) (d:Nat),recs[j]?=some rj→j≠i→rc.dst=some d→rj.dst≠some d)→L (k+i)=false →
    qJ recs (vn L (k+i)) k f t=wQ (qJ recs L k f) rc.dst rc.r t
  | [],L,k,i,rc,f,t,hi,_,_=>by simp at hi
  | r0::rs,L,k,0,rc,f,t,hi,hd,hL=>by
    simp at hi
    subst hi
    simp only [Nat.add_zero] at hL ⊢
    simp only [qJ,yM,if_true,hL,Bool.false_eq_true,if_false]
    cases hdst:r0.dst with
    | none=>exact xY rs _ _ _ _ _ (fun j rc' hj _=>xp _ (by omega)) rfl
    | some d=>
      simp only [wQ]
      by_cases e:d=t
      · subst e
        rw [if_pos rfl]
        have:∀ (rs:List Rec) (L:Nat→Bool) (k:Nat) (f:Nat→Option AV),(∀ (j:Nat) (rj:Rec),rs[j]?=some rj→rj.dst≠some d)→qJ rs L k f d=f d:=by
          intro rs
          induction rs with
          | nil=>intro L k f _;rfl
          | cons r1 rs ih=>
            intro L k f hn
            simp only [qJ]
            rw [ih _ _ _ (fun j rj hj=>hn (j+1) rj (by simpa using hj))]
            have h1:=hn 0 r1 rfl
            split
            · cases hd1:r1.dst with
              | none=>rfl
              | some d1=>simp only [wQ];rw [if_neg (fun e=>h1 (by rw [hd1,e]))]
            · rfl
        rw [this _ _ _ _ (fun j rj hj=>hd (j+1) rj d (by simpa using hj) (by omega) hdst)]
        simp
      · rw [if_neg e]
        exact xY rs _ _ _ _ _ (fun j rc' hj _=>xp _ (by omega)) (by simp [e])
  | r0::rs,L,k,i+1,rc,f,t,hi,hd,hL=>by
    simp only [qJ]
    have hk:vn L (k+(i+1)) k=L k:=xp _ (by omega)
    rw [hk,show k+(i+1)=k+1+i by omega]
    exact V1 rs L (k+1) i rc _ t (by simpa using hi) (fun j rj d hj hne=>hd (j+1) rj d (by simpa using hj) (by omega)) (by rw [show k+1+i=k+(i+1) by omega];exact hL)
theorem V2:∀ (recs:List Rec) (L:Nat→Bool) (k i:Nat) (rc:Rec) (h:Nat→Option Zaf) (x:Nat),recs[i]?=some rc →
    (∀ (j:Nat) (rj:Rec),recs[j]?=some rj→i < j→L (k+j)=true→∀ y,y∈z1 rc.ups→y ∉ z1 rj.ups)→L (k+i)=false →
    qa recs (vn L (k+i)) k h x=hup rc.ups (qa recs L k h) x
  | [],L,k,i,rc,h,x,hi,_,_=>by simp at hi
  | r0::rs,L,k,0,rc,h,x,hi,hd,hL=>by
    simp at hi
    subst hi
    simp only [Nat.add_zero] at hL ⊢
    simp only [qa,yM,if_true,hL,Bool.false_eq_true,if_false]
    by_cases hx:x∈z1 r0.ups
    · have:∀ (rs:List Rec) (L':Nat→Bool) (k':Nat) (h':Nat→Option Zaf),(∀ (j:Nat) (rj:Rec),rs[j]?=some rj→L' (k'+j)=true→x ∉ z1 rj.ups)→qa rs L' k' h' x=h' x:=by
        intro rs
        induction rs with
        | nil=>intro L' k' h' _;rfl
        | cons r1 rs ih=>
          intro L' k' h' hn
          simp only [qa]
          rw [ih _ _ _ (fun j rj hj hl=>hn (j+1) rj (by simpa using hj) (by rwa [show k'+(j+1)=k'+1+j by omega]))]
          split
          · rename_i hl;exact wv (hn 0 r1 rfl (by simpa using hl))
          · rfl
      rw [this _ _ _ _ (fun j rj hj hl=>by
        rw [xp _ (by omega)] at hl
        exact hd (j+1) rj (by simpa using hj) (by omega) (by rwa [show k+(j+1)=k+1+j by omega]) x hx)]
      exact Kr hx
    · rw [wv hx]
      exact vS rs _ _ _ _ _ (fun j rc' hj _=>xp _ (by omega)) (by simp [wv hx])
  | r0::rs,L,k,i+1,rc,h,x,hi,hd,hL=>by
    simp only [qa]
    have hk:vn L (k+(i+1)) k=L k:=xp _ (by omega)
    rw [hk,show k+(i+1)=k+1+i by omega]
    exact V2 rs L (k+1) i rc _ x (by simpa using hi) (fun j rj hj hlt hl=>hd (j+1) rj (by simpa using hj) (by omega) (by rwa [show k+(j+1)=k+1+j by omega])) (by rw [show k+1+i=k+(i+1) by omega];exact hL)
def qK:AV→List Nat
  | .Zas i _=>[i]
  | .ptr i _ _=>[i]
  | .Zal i _ _=>[i]
  | .map i=>[i]
  | _=>[]
def zW:AOp→List Opd
  | .mov x | .box _ x | .load _ _ x | .fld _ x | .not x | .neg x | .conv _ x | .len x | .lens x | .lenm x | .ext x _ | .mks _ _ _ x=>[x]
  | .pick c a b=>[c,a,b]
  | .alloc _ _ | .mkmap=>[]
  | .build _ ps=>ps.map (·.2.2)
  | .bslice _ _ _ ps=>ps.map (·.2)
  | .store _ x v | .idx _ x v | .idxa _ _ x v | .bin _ x v | .eqb _ x v | .eqs _ _ x v | .mm _ x v | .eqnil _ x v | .app _ _ x v=>[x,v]
  | .mkf _ a b=>a++b
  | .look _ _ _ m k=>[m,k]
  | .upd _ m k v=>[m,k,v]
  | .slc _ x lo hi=>[x]++lo.toList++hi.toList
  | .nck x=>[x]
  | .mki _ x=>[x]
  | .eqnm _ x v=>[x,v]
  | .cut _ _ _ x=>[x]
  | .copy _ d x=>[d,x]
  | .ixa _ _ x i=>[x,i]
  | .call f args=>f::args
def xF (op:AOp) (ev:Opd→AV):List Nat:=(zW op).flatMap fun x=>qK (ev x)
def zg (op:AOp) (ev:Opd→AV):List Nat:=match op with
  | .mov _=>[]
  | op=>xF op ev
theorem YH {op:AOp} {ev:Opd→AV} {h h':Nat→Option Zaf} {id:Nat} (ha:∀ i∈xF op ev,h' i=h i):evalOp op ev h' id=evalOp op ev h id:=by
  have ht:∀ x∈zW op,∀ i∈qK (ev x),h' i=h i:=fun x hx i hi=>ha i (by simp only [xF,List.mem_flatMap];exact ⟨x,hx,hi⟩)
  have hro:∀ x∈zW op,xB h' (ev x)=xB h (ev x):=fun x hx=>by
    unfold xB
    split<;>try rfl
    rename_i i off len e
    rw [ht x hx i (by rw [e];simp [qK])]
  have hlo:∀ x∈zW op,wq h' (ev x)=wq h (ev x):=fun x hx=>by
    unfold wq
    split<;>try rfl
    rename_i i off len e
    rw [ht x hx i (by rw [e];simp [qK])]
  have hme:∀ x∈zW op,jq h' (ev x)=jq h (ev x):=fun x hx=>by
    unfold jq
    split<;>try rfl
    rename_i i e
    rw [ht x hx i (by rw [e];simp [qK])]
  have hmn:∀ x∈zW op,wK h' (ev x)=wK h (ev x):=fun x hx=>by
    unfold wK
    split<;>try rfl
    rename_i i e
    rw [ht x hx i (by rw [e];simp [qK])]
  cases op with
  | eqnm neg x y=>simp only [evalOp,hmn x (by simp [zW])]
  | load ag n x=>
    simp only [evalOp]
    split<;>try rfl
    rename_i i r o e
    rw [ht x (by simp [zW]) i (by rw [e];simp [qK])]
  | store n x v=>
    simp only [evalOp]
    split<;>try rfl
    rename_i i r o cs e _
    rw [ht x (by simp [zW]) i (by rw [e];simp [qK])]
  | fld off x=>
    simp only [evalOp]
    split<;>try rfl
    rename_i i r o e
    rw [ht x (by simp [zW]) i (by rw [e];simp [qK])]
  | idx sz x i=>
    simp only [evalOp]
    split<;>try rfl
    split<;>try rfl
    rename_i j off len e
    rw [ht x (by simp [zW]) j (by rw [e];simp [qK])]
  | idxa n sz x i=>
    simp only [evalOp]
    split<;>try rfl
    rename_i k m j e1 e2
    rw [ht x (by simp [zW]) j (by rw [e2];simp [qK])]
  | len x=>simp only [evalOp,hlo x (by simp [zW])]
  | lenm x=>
    simp only [evalOp]
    split<;>try rfl
    rename_i i e
    rw [ht x (by simp [zW]) i (by rw [e];simp [qK])]
  | look s z ok m k=>simp only [evalOp,hme m (by simp [zW])]
  | upd s m k v=>
    simp only [evalOp]
    split<;>try rfl
    rename_i i kv e1 e2
    rw [ht m (by simp [zW]) i (by rw [e1];simp [qK])]
  | nck x=>
    simp only [evalOp]
    split<;>try rfl
    rename_i i r o e
    rw [ht x (by simp [zW]) i (by rw [e];simp [qK])]
  | copy sz d x=>
    have hra:jF h' (ev x)=jF h (ev x):=by
      unfold jF
      split
      · rename_i i off len e
        rw [ht x (by simp [zW]) i (by rw [e];simp [qK])]
      · rw [hro x (by simp [zW])]
    simp only [evalOp,YQ,hra]
    split<;>try rfl
    rename_i i len e
    rw [ht d (by simp [zW]) i (by rw [e];simp [qK])]
  | app sz by_ s x=>
    have hra:jF h' (ev x)=jF h (ev x):=by
      unfold jF
      split
      · rename_i i off len e
        rw [ht x (by simp [zW]) i (by rw [e];simp [qK])]
      · rw [hro x (by simp [zW])]
    simp only [evalOp]
    split
    · rename_i i off len e
      have:=ht s (by simp [zW]) i (by rw [e];simp [qK])
      simp only [Qv,hra,this]
    · simp only [Xh,hro x (by simp [zW])]
      split<;>try rfl
      split<;>try rfl
      split<;>try rfl
      rename_i i rows e2
      rw [ht s (by simp [zW]) i (by rw [e2];simp [qK])]
  | _=>rfl
theorem Ks {op:AOp} {ev:Opd→AV} {h h':Nat→Option Zaf} {id:Nat} (ha:∀ i∈zg op ev,h' i=h i):evalOp op ev h' id=evalOp op ev h id:=by
  cases op with
  | mov x=>rfl
  | _=>exact YH ha
section
def jP (N:Nat→Prop) (l:List Nat):Nat→Prop:=fun i=>N i∨i∈l
theorem QL (N:Nat→Prop):jP N []=N:=by funext i;simp [jP]
def LCall (C:Ctx) (f:Nat) (args:List AV) (h0:Nat→Option Zaf) (rd:List Nat) (r:AV) (ups:List (Nat×Zaf)) (ex:List Nat):Prop:=vl C f ∧
  ∀ (g:Gh) (h:Nat→Option Zaf) (N:Nat→Prop) (w:World) (vs:List Value),(∀ i∈rd,h i=h0 i)→(∀ i∈ex,¬ N i)→RH C g h N w→RVs C g h N w args vs →
    Calls C.P (C.fnum f) vs.toArray w fun e w'=>∃ v g',e=.returned v∧Evo g h N w g' (hup ups h) (jP N ex) w'∧RH C g' (hup ups h) (jP N ex) w'∧RV C g' (hup ups h) (jP N ex) w' r v
def EvD (C:Ctx) (it:AItem) (st:St) (rc:Rec):Prop:=
  match zQ st.env it.guard with
  | some false=>rc.r=.undef∧rc.ups=[]∧rc.ex=[]
  | some true=>match it.op with
    | .call f args=>match zd st.env f with
      | .func f' first caps=>LCall C f' (first++args.map (zd st.env)++caps) (za st.heap) rc.rd rc.r rc.ups rc.ex
      | _=>False
    | op=>evalOp op (zd st.env) (za st.heap) st.next=some (rc.r,rc.ups)∧rc.rd=zg op (zd st.env)∧rc.ex=[]
  | none=>False
def Za (C:Ctx):List AItem→St→List Rec→St→Prop
  | [],st,[],st'=>st'=st
  | it::its,st,rc::recs,st'=>rc.dst=it.dst∧EvD C it st rc∧Za C its (st.after it.dst rc.r rc.ups) recs st'
  | _,_,_,_=>False
def jz (a b:Rec):Bool:=(z1 a.ups).any (fun i=>b.rd.contains i||(z1 b.ups).contains i)||(z1 b.ups).any (fun i=>a.rd.contains i)
def ZM (ord:List Nat) (recs:List Rec):Bool:=
  (List.range recs.length).all fun j=>match recs[j]? with
    | some rj=>(z1 rj.ups).isEmpty&&rj.rd.isEmpty||(List.range j).all fun i=>match recs[i]? with
      | some ri=>bef ord i j || !jz ri rj
      | none=>true
    | none=>true
section
variable {C:Ctx} {nt:Fr} {g g':Gh} {st st':St} {a:Act} {w w':World}
theorem ZN {ord:List Nat} {recs:List Rec} (hm:ZM ord recs=true) {i j:Nat} {ri rj:Rec} (hi:recs[i]?=some ri) (hj:recs[j]?=some rj) (hlt:i < j) (hc:jz ri rj=true):bef ord i j=true:=by
  unfold ZM at hm
  have hjl:j < recs.length:=(List.getElem?_eq_some_iff.1 hj).1
  have h1:=List.all_eq_true.1 hm j (by simp [hjl])
  simp only [hj,Bool.or_eq_true,Bool.and_eq_true,List.isEmpty_iff] at h1
  rcases h1 with ⟨h2,h3⟩ | h1
  · simp [jz,h2,h3] at hc
  · have h2:=List.all_eq_true.1 h1 i (by simp [hlt])
    simp only [hi,Bool.or_eq_true,Bool.not_eq_true'] at h2
    rcases h2 with h2 | h2
    · exact h2
    · rw [hc] at h2;cases h2
theorem ZO:∀ {items:List AItem} {st:St} {recs:List Rec} {st':St},Za C items st recs st'→recs.length=items.length
  | [],_,[],_,_=>rfl
  | [],_,_::_,_,h=>h.elim
  | _::_,_,[],_,h=>h.elim
  | it::its,st,rc::recs,st',h=>by simp [ZO h.2.2]
theorem kJ (st:St) (dst:Option Nat) (r:AV) (ups:List (Nat×Zaf)):za (st.after dst r ups).env=wQ (za st.env) dst r:=by
  cases dst with
  | none=>rfl
  | some d=>funext t;simp only [St.after,St.put,wQ,zo]
theorem kc (st:St) (dst:Option Nat) (r:AV) (ups:List (Nat×Zaf)):za (st.after dst r ups).heap=hup ups (za st.heap):=by
  cases dst<;>simp only [St.after,St.put,jr]
theorem XZ (st:St) (dst:Option Nat) (r:AV) (ups:List (Nat×Zaf)):(st.after dst r ups).next=st.next+1:=by
  cases dst<;>rfl
theorem Vd:∀ (items:List AItem) (st:St) (recs:List Rec) (st':St) (k:Nat),Za C items st recs st'→∀ (i:Nat) (it:AItem) (rc:Rec),items[i]?=some it→recs[i]?=some rc →
    ∃ sti,EvD C it sti rc∧rc.dst=it.dst∧za sti.env=qJ recs (fun j=>decide (j < k+i)) k (za st.env)∧za sti.heap=qa recs (fun j=>decide (j < k+i)) k (za st.heap)∧sti.next=st.next+i
  | [],_,[],_,_,_,i,it,rc,hi,_=>by simp at hi
  | [],_,_::_,_,_,h,_,_,_,_,_=>h.elim
  | _::_,_,[],_,_,h,_,_,_,_,_=>h.elim
  | it0::its,st,rc0::recs,st',k,⟨h1,h2,h3⟩,0,it,rc,hi,hr=>by
    simp at hi hr
    subst hi;subst hr
    refine ⟨st,h2,h1,?_,?_,rfl⟩
    · funext t
      have:qJ (rc0::recs) (fun j=>decide (j < k+0)) k (za st.env) t=qJ (rc0::recs) (fun _=>false) k (za st.env) t:=xY _ _ _ _ _ _ (fun j rc _ _=>by simp) rfl
      rw [this]
      have:∀ (l:List Rec) (k:Nat) (f:Nat→Option AV),qJ l (fun _=>false) k f=f:=by
        intro l
        induction l with
        | nil=>intro k f;rfl
        | cons r l ih=>intro k f;simp [qJ,ih]
      rw [this]
    · funext t
      have:qa (rc0::recs) (fun j=>decide (j < k+0)) k (za st.heap) t=qa (rc0::recs) (fun _=>false) k (za st.heap) t:=vS _ _ _ _ _ _ (fun j rc _ _=>by simp) rfl
      rw [this]
      have:∀ (l:List Rec) (k:Nat) (f:Nat→Option Zaf),qa l (fun _=>false) k f=f:=by
        intro l
        induction l with
        | nil=>intro k f;rfl
        | cons r l ih=>intro k f;simp [qa,ih]
      rw [this]
  | it0::its,st,rc0::recs,st',k,⟨h1,h2,h3⟩,i+1,it,rc,hi,hr=>by
    obtain ⟨sti,h4,h5,h6,h7,h8⟩:=Vd its _ recs st' (k+1) h3 i it rc (by simpa using hi) (by simpa using hr)
    refine ⟨sti,h4,h5,?_,?_,by rw [h8,XZ];omega⟩
    · rw [h6,kJ,←h1]
      simp only [qJ]
      rw [show k+1+i=k+(i+1) by omega]
      simp
    · rw [h7,kc]
      simp only [qa]
      rw [show k+1+i=k+(i+1) by omega]
      simp
theorem Xn:∀ (items:List AItem) (st:St) (recs:List Rec) (st':St) (k:Nat) (L:Nat→Bool),Za C items st recs st'→(∀ j,j < items.length→L (k+j)=true) →
    za st'.env=qJ recs L k (za st.env)∧za st'.heap=qa recs L k (za st.heap)∧st'.next=st.next+items.length
  | [],_,[],_,_,_,h,_=>by cases h;exact ⟨rfl,rfl,rfl⟩
  | [],_,_::_,_,_,_,h,_=>h.elim
  | _::_,_,[],_,_,_,h,_=>h.elim
  | it0::its,st,rc0::recs,st',k,L,⟨h1,h2,h3⟩,hL=>by
    obtain ⟨h4,h5,h6⟩:=Xn its _ recs st' (k+1) L h3 (fun j hj=>by have:=hL (j+1) (by simp;omega);rwa [show k+(j+1)=k+1+j by omega] at this)
    have h0:=hL 0 (by simp)
    simp only [Nat.add_zero] at h0
    refine ⟨?_,?_,by rw [h6,XZ];simp;omega⟩
    · rw [h4,kJ,←h1];simp only [qJ,h0,if_true]
    · rw [h5,kc];simp only [qa,h0,if_true]
theorem Kt (acc:Array Nat) (i:Nat):∀ (l:List Edge) (s:Nat),(l.foldl (fun s e=>if Region.binds .any e then s ||| 2 ^ e.on ||| acc.getD e.on 0 else s) s).testBit i=true →
    s.testBit i=true∨∃ e∈l,Region.binds .any e=true∧(e.on=i∨(acc.getD e.on 0).testBit i=true):=by
  intro l
  induction l with
  | nil=>intro s h;exact .inl h
  | cons e l ih=>
    intro s h
    simp only [List.foldl_cons] at h
    rcases ih _ h with h1 | ⟨e',he',h1⟩
    · split at h1
      · rename_i hb
        simp only [Nat.testBit_or,Bool.or_eq_true,Nat.testBit_two_pow,decide_eq_true_eq] at h1
        rcases h1 with (h1 | h1) | h1
        · exact .inl h1
        · exact .inr ⟨e,List.mem_cons_self,hb,.inl h1⟩
        · exact .inr ⟨e,List.mem_cons_self,hb,.inr h1⟩
      · exact .inl h1
    · exact .inr ⟨e',List.mem_cons_of_mem _ he',h1⟩
theorem zcb:∀ (l:List Oper) (acc:Array Nat),∃ R:Array Nat,R=l.foldl (fun acc o=>acc.push (o.after.foldl (fun s e=>if Region.binds .any e then s ||| 2 ^ e.on ||| acc.getD e.on 0 else s) 0)) acc ∧
    (∀ j,j < acc.size→R.getD j 0=acc.getD j 0) ∧
    ∀ (j:Nat) (o:Oper) (i:Nat),l[j]?=some o→(R.getD (acc.size+j) 0).testBit i=true→∃ e∈o.after,Region.binds .any e=true∧(e.on=i∨(R.getD e.on 0).testBit i=true):=by
  intro l
  induction l with
  | nil=>intro acc;exact ⟨acc,rfl,fun _ _=>rfl,fun j o i hj=>by simp at hj⟩
  | cons o l ih=>
    intro acc
    obtain ⟨R,h1,h2,h3⟩:=ih (acc.push (o.after.foldl (fun s e=>if Region.binds .any e then s ||| 2 ^ e.on ||| acc.getD e.on 0 else s) 0))
    refine ⟨R,h1,fun j hj => ?_,fun j o' i hj ht => ?_⟩
    · rw [h2 j (by simp;omega)]
      have hne:j≠acc.size:=by omega
      simp [Array.getElem?_push,hne]
    · cases j with
      | zero=>
        simp at hj
        subst hj
        simp only [Nat.add_zero] at ht
        have hval:R.getD acc.size 0=o.after.foldl (fun s e=>if Region.binds .any e then s ||| 2 ^ e.on ||| acc.getD e.on 0 else s) 0:=by
          rw [h2 acc.size (by simp)];simp
        rw [hval,←Array.foldl_toList] at ht
        rcases Kt acc i _ 0 ht with h4 | ⟨e,he,hb,h4⟩
        · simp at h4
        · refine ⟨e,by simpa using he,hb,?_⟩
          rcases h4 with h4 | h4
          · exact .inl h4
          · refine .inr ?_
            rcases Nat.lt_or_ge e.on acc.size with hlt | hge
            · rw [h2 e.on (by simp;omega)]
              have hne:e.on≠acc.size:=by omega
              simpa [Array.getElem?_push,hne] using h4
            · simp [Array.getElem?_eq_none hge] at h4
      | succ j=>
        refine h3 j o' i (by simpa using hj) ?_
        rw [←ht]
        congr 2
        simp;omega
theorem ze3 {ops:Array Oper} {i j:Nat} {o:Oper} (hj:ops[j]?=some o) (hb:bef (Region.before ops).toList i j=true) :
    ∃ e∈o.after,Region.binds .any e=true∧(e.on=i∨bef (Region.before ops).toList i e.on=true):=by
  obtain ⟨R,h1,_,h3⟩:=zcb ops.toList #[]
  have hR:R=Region.before ops:=by rw [h1];unfold Region.before;rw [←Array.foldl_toList]
  have hconv:∀ k,(Region.before ops).toList.getD k 0=(Region.before ops).getD k 0:=fun k=>by simp [List.getD,Array.getD_eq_getD_getElem?]
  unfold bef at hb ⊢
  rw [hconv] at hb
  obtain ⟨e,he,hbe,h4⟩:=h3 j o i (by simpa using hj) (by rw [hR];simpa using hb)
  refine ⟨e,he,hbe,?_⟩
  rcases h4 with h4 | h4
  · exact .inl h4
  · rw [hR] at h4;rw [hconv];exact .inr h4
theorem kd {ops:Array Oper} {ord:List Nat} (hd:wO ops ord=true) {i:Nat} {o:Oper} (hi:ops[i]?=some o) {e:Edge} (he:e∈o.after) (hb:Region.binds .any e=true):e.on < i:=by
  unfold wO at hd
  simp only [Bool.and_eq_true] at hd
  have hil:i < ops.size:=(Array.getElem?_eq_some_iff.1 hi).1
  have h1:=List.all_eq_true.1 hd.1 i (by simp [hil])
  simp only [hi] at h1
  have h2:=Array.all_eq_true_iff_forall_mem.1 h1 e he
  simpa [hb] using h2
theorem QM {ops:Array Oper} {ord:List Nat} (hd:wO ops ord=true) {i j:Nat} {oi oj:Oper} {d:Nat} (hi:ops[i]?=some oi) (hj:ops[j]?=some oj) (hdst:oi.dst=some d) (hne:i≠j) :
    oj.dst≠some d∧(d∈oj.looksAt ops→if i < j then bef ord i j=true else bef ord j i=true):=by
  unfold wO at hd
  simp only [Bool.and_eq_true] at hd
  have hil:i < ops.size:=(Array.getElem?_eq_some_iff.1 hi).1
  have hjl:j < ops.size:=(Array.getElem?_eq_some_iff.1 hj).1
  have h1:=List.all_eq_true.1 hd.2 i (by simp [hil])
  simp only [hi,hdst] at h1
  have h2:=List.all_eq_true.1 h1 j (by simp [hjl])
  simp only [hj,Bool.or_eq_true,beq_iff_eq,hne,false_or,Bool.and_eq_true,bne_iff_ne,ne_eq,Bool.not_eq_true'] at h2
  refine ⟨h2.1,fun hm => ?_⟩
  rcases h2.2 with h3 | h3
  · have:(oj.looksAt ops).contains d=true:=by simpa using hm
    rw [this] at h3;cases h3
  · split
    · rename_i hlt;simpa [hlt] using h3
    · rename_i hlt;simpa [hlt] using h3
def X0 (ops:Array Oper) (listed:Array Bool):Prop:=∀ (j:Nat) (o:Oper),ops[j]?=some o→listed.getD j false=true→∀ e∈o.after,Region.binds .any e=true→listed.getD e.on false=true
theorem X1 {ops:Array Oper} {listed:Array Bool} (hd:wO ops (Region.before ops).toList=true) (hc:X0 ops listed):∀ (j i:Nat) (o:Oper),ops[j]?=some o →
    (∀ e∈o.after,Region.binds .any e=true→listed.getD e.on false=true)→bef (Region.before ops).toList i j=true→listed.getD i false=true:=by
  intro j
  induction j using Nat.strongRecOn with
  | _ j ih=>
    intro i o hj ha hb
    obtain ⟨e,he,hbe,h1⟩:=ze3 hj hb
    have hl:=ha e he hbe
    rcases h1 with rfl | h1
    · exact hl
    · have hlt:=kd hd hj he hbe
      have hjl:j < ops.size:=(Array.getElem?_eq_some_iff.1 hj).1
      have hoe:ops[e.on]?=some (ops[e.on]'(by omega)):=by simp
      exact ih e.on hlt i _ hoe (fun e' he' hb'=>hc e.on _ hoe hl e' he' hb') h1
end
end
section
section
variable {C:Ctx} {nt:Fr} {ro:Option Nat}
def NS (n0:Nat) (recs:List Rec) (L:Nat→Bool):Nat→Prop:=fun i=>i < n0∨(∃ k,L k=true∧i=n0+k)∨∃ k rc,L k=true∧recs[k]?=some rc∧i∈rc.ex
def Ve (n0:Nat) (recs:List Rec):Prop:=(∀ (k:Nat) (rc:Rec) (i:Nat),recs[k]?=some rc→i∈rc.ex→n0+recs.length≤i)∧∀ (k l:Nat) (rk rl:Rec) (i:Nat),recs[k]?=some rk→recs[l]?=some rl→i∈rk.ex→i∈rl.ex→k=l
def Ku (C:Ctx) (nt:Fr) (recs:List Rec) (g0:Gh) (st:St) (w0:World) (L:Nat→Bool) (a:Act) (w:World):Prop:=
  ∃ g,RH C g (qa recs L 0 (za st.heap)) (NS st.next recs L) w∧Evo g0 (za st.heap) (· < st.next) w0 g (qa recs L 0 (za st.heap)) (NS st.next recs L) w ∧
    a.tmps.size=nt.n∧Marks nt.B g w a.defers∧∀ t x,qJ recs L 0 (za st.env) t=some x→RV C g (qa recs L 0 (za st.heap)) (NS st.next recs L) w x (a.tmps.getD t undef)
theorem Kv (n0:Nat) {recs:List Rec} {rc:Rec} (L:Nat→Bool) (i:Nat) (hi:recs[i]?=some rc):NS n0 recs (vn L i)=jP (z8 (NS n0 recs L) (n0+i)) rc.ex:=by
  funext x
  simp only [NS,z8,jP,eq_iff_iff]
  constructor
  · rintro (h | ⟨k,h1,rfl⟩ | ⟨k,r,h1,h2,h3⟩)
    · exact .inl (.inl (.inl h))
    · by_cases e:k=i
      · subst e;exact .inl (.inr rfl)
      · rw [xp _ e] at h1;exact .inl (.inl (.inr (.inl ⟨k,h1,rfl⟩)))
    · by_cases e:k=i
      · subst e;rw [hi] at h2;cases h2;exact .inr h3
      · rw [xp _ e] at h1;exact .inl (.inl (.inr (.inr ⟨k,r,h1,h2,h3⟩)))
  · rintro (((h | ⟨k,h1,rfl⟩ | ⟨k,r,h1,h2,h3⟩) | rfl) | h)
    · exact .inl h
    · by_cases e:k=i
      · subst e;exact .inr (.inl ⟨k,yM _ _,rfl⟩)
      · exact .inr (.inl ⟨k,by rw [xp _ e];exact h1,rfl⟩)
    · by_cases e:k=i
      · subst e;exact .inr (.inr ⟨k,r,yM _ _,h2,h3⟩)
      · exact .inr (.inr ⟨k,r,by rw [xp _ e];exact h1,h2,h3⟩)
    · exact .inr (.inl ⟨i,yM _ _,rfl⟩)
    · exact .inr (.inr ⟨i,rc,yM _ _,hi,h⟩)
theorem ze4 {n0:Nat} {recs:List Rec} (hex:Ve n0 recs) {L:Nat→Bool} {i:Nat} (h:L i=false) (hi:i < recs.length):¬ NS n0 recs L (n0+i):=by
  rintro (h1 | ⟨k,h1,h2⟩ | ⟨k,r,h1,h2,h3⟩)
  · omega
  · have:k=i:=by omega
    subst this
    rw [h] at h1;cases h1
  · have:=hex.1 k r _ h2 h3;omega
theorem zdx {n0:Nat} {recs:List Rec} (hex:Ve n0 recs) {L:Nat→Bool} (hL:∀ k,L k=true→k < recs.length) {i:Nat} {rc:Rec} (h:L i=false) (hi:recs[i]?=some rc):∀ x∈rc.ex,¬ NS n0 recs L x:=by
  intro x hx
  have h0:=hex.1 i rc x hi hx
  rintro (h1 | ⟨k,h1,h2⟩ | ⟨k,r,h1,h2,h3⟩)
  · omega
  · have:=hL k h1;omega
  · have:=hex.2 k i r rc x h2 hi h3 hx
    subst this
    rw [h] at h1;cases h1
theorem zdy {ops:Array Oper} {items:List AItem} {recs:List Rec} {st st':St} {g0:Gh} {w0:World} (hm:mapO (j9 C nt.n ops) ops.toList=some items) (hrun:Za C items st recs st')
    (hd:wO ops (Region.before ops).toList=true) (hmem:ZM (Region.before ops).toList recs=true) (hex:Ve st.next recs) {listed:Array Bool} (hsz:listed.size=ops.size) (hcl:X0 ops listed)
    {i:Nat} (hi:i∈Region.ready .any ops listed) {a:Act} {w:World} (hI:Ku C nt recs g0 st w0 (fun k=>listed.getD k false) a w) {Q:Exit→Act→World→Prop} {K:Act→World→Prop}
    (hK:∀ a' w',Ku C nt recs g0 st w0 (fun k=>(listed.setIfInBounds i true).getD k false) a' w'→K a' w'):wpOpIn (fen ro) 0 C.P ops Q i K a w:=by
  obtain ⟨hun,o,ho,hready⟩:=mem_ready.1 hi
  have hilt:i < ops.size:=(Array.getElem?_eq_some_iff.1 ho).1
  have hLi:listed.getD i false=false:=by
    have hlt:i < listed.size:=by omega
    simp [hlt] at hun ⊢
    exact hun
  obtain ⟨hlen,hget⟩:=z7 hm
  obtain ⟨it,hit,hcomp⟩:=hget i o (by simpa using ho)
  have hrl:=ZO hrun
  have hlo:items.length=ops.size:=by rw [hlen];simp
  have hrlt:i < recs.length:=by omega
  have hrc:recs[i]?=some recs[i]:=by simp
  generalize hrcd:recs[i]=rc at hrc
  obtain ⟨hop,hdst,hdlt,hgd⟩:=wa hcomp
  obtain ⟨sti,hev,hrdst,henv,hheap,hnext⟩:=Vd items st recs st' 0 hrun i it rc hit hrc
  simp only [Nat.zero_add] at henv hheap
  have recDst:∀ (j:Nat) (rj:Rec),recs[j]?=some rj→∃ oj,ops[j]?=some oj∧rj.dst=oj.dst:=fun j rj hj=>by
    have hjl:j < recs.length:=(List.getElem?_eq_some_iff.1 hj).1
    have hoj:ops[j]?=some (ops[j]'(by omega)):=by simp
    obtain ⟨itj,hitj,hcj⟩:=hget j (ops[j]'(by omega)) (by rw [Array.getElem?_toList];exact hoj)
    obtain ⟨_,_,h3,_,_⟩:=Vd items st recs st' 0 hrun j itj rj hitj hj
    exact ⟨_,hoj,by rw [h3];exact (wa hcj).2.1⟩
  have listedOf:∀ j,bef (Region.before ops).toList j i=true→listed.getD j false=true:=fun j hb=>X1 hd hcl i j o ho hready hb
  have notListed:∀ j,i < j→j < ops.size→bef (Region.before ops).toList i j=true→listed.getD j false=false:=fun j hlt hj hb=>by
    cases hc:listed.getD j false with
    | false=>rfl
    | true=>
      have hoj:ops[j]?=some (ops[j]'(by omega)):=by simp
      have:=X1 hd hcl j i _ hoj (fun e he hbe=>hcl j _ hoj hc e he hbe) hb
      rw [hLi] at this;cases this
  have agreeSlot:∀ t,t∈o.looksAt ops→qJ recs (fun k=>listed.getD k false) 0 (za st.env) t=za sti.env t:=fun t ht=>by
    rw [henv]
    refine xY _ _ _ _ _ _ (fun j rj hj hdj => ?_) rfl
    simp only [Nat.zero_add]
    obtain ⟨oj,hoj,hdoj⟩:=recDst j rj hj
    rw [hdoj] at hdj
    have hjl:j < ops.size:=(Array.getElem?_eq_some_iff.1 hoj).1
    by_cases hji:j=i
    · subst hji;rw [hLi];simp
    · have h2:=(QM hd hoj ho hdj hji).2 ht
      split at h2
      · rename_i hlt;rw [listedOf j h2];simp [hlt]
      · rename_i hge;rw [notListed j (by omega) hjl h2];simp;omega
  have agreeHeap:∀ x,x∈rc.rd→qa recs (fun k=>listed.getD k false) 0 (za st.heap) x=za sti.heap x:=fun x hx=>by
    rw [hheap]
    refine vS _ _ _ _ _ _ (fun j rj hj hup => ?_) rfl
    simp only [Nat.zero_add]
    have hjl:j < ops.size:=by have:=(List.getElem?_eq_some_iff.1 hj).1;omega
    by_cases hji:j=i
    · subst hji;rw [hLi];simp
    · rcases Nat.lt_or_ge j i with hlt | hge
      · have hc:jz rj rc=true:=by
          simp only [jz,Bool.or_eq_true,List.any_eq_true]
          exact .inl ⟨x,hup,.inl (by simpa using hx)⟩
        rw [listedOf j (ZN hmem hj hrc hlt hc)];simp [hlt]
      · have hlt:i < j:=by omega
        have hc:jz rc rj=true:=by
          simp only [jz,Bool.or_eq_true,List.any_eq_true]
          exact .inr ⟨x,hup,by simpa using hx⟩
        rw [notListed j hlt hjl (ZN hmem hrc hj hlt hc)];simp;omega
  obtain ⟨g,R,E,hts,hdf,hslots⟩:=hI
  have hset:(fun k=>(listed.setIfInBounds i true).getD k false)=vn (fun k=>listed.getD k false) i:=by
    funext k
    simp only [vn]
    by_cases e:k=i
    · subst e;rw [if_pos rfl];have:k < listed.size:=by omega
      simp [this]
    · rw [if_neg e];exact getD_set_ne false (fun h=>e h.symm)
  have hheap':qa recs (vn (fun k=>listed.getD k false) i) 0 (za st.heap)=hup rc.ups (qa recs (fun k=>listed.getD k false) 0 (za st.heap)):=by
    funext x
    have:=V2 recs (fun k=>listed.getD k false) 0 i rc (za st.heap) x hrc (fun j rj hj hlt hL y hy hy'=>by
      simp only [Nat.zero_add] at hL
      have hjl:j < ops.size:=by have:=(List.getElem?_eq_some_iff.1 hj).1;omega
      have hc:jz rc rj=true:=by
        simp only [jz,Bool.or_eq_true,List.any_eq_true]
        exact .inl ⟨y,hy,.inr (by simpa using hy')⟩
      rw [notListed j hlt hjl (ZN hmem hrc hj hlt hc)] at hL
      cases hL) (by simpa using hLi)
    simpa using this
  have hslot':∀ t,qJ recs (vn (fun k=>listed.getD k false) i) 0 (za st.env) t=wQ (qJ recs (fun k=>listed.getD k false) 0 (za st.env)) rc.dst rc.r t:=fun t=>by
    have:=V1 recs (fun k=>listed.getD k false) 0 i rc (za st.env) t hrc (fun j rj d hj hne hdd=>by
      obtain ⟨oj,hoj,hdoj⟩:=recDst j rj hj
      rw [hdoj]
      refine (QM hd ho hoj ?_ (fun e=>hne e.symm)).1
      rw [←hdd,hrdst,hdst]) (by simpa using hLi)
    simpa using this
  have finish:∀ (v:Value) (w':World) (g':Gh),Evo g (qa recs (fun k=>listed.getD k false) 0 (za st.heap)) (NS st.next recs fun k=>listed.getD k false) w g' (hup rc.ups (qa recs (fun k=>listed.getD k false) 0 (za st.heap))) (jP (z8 (NS st.next recs fun k=>listed.getD k false) (st.next+i)) rc.ex) w' →
      RH C g' (hup rc.ups (qa recs (fun k=>listed.getD k false) 0 (za st.heap))) (jP (z8 (NS st.next recs fun k=>listed.getD k false) (st.next+i)) rc.ex) w' →
      RV C g' (hup rc.ups (qa recs (fun k=>listed.getD k false) 0 (za st.heap))) (jP (z8 (NS st.next recs fun k=>listed.getD k false) (st.next+i)) rc.ex) w' rc.r v→K (a.put o.dst v) w':=fun v w' g' E' R' hv=>by
    refine hK _ _ ?_
    rw [hset]
    refine ⟨g',?_,?_,?_,?_,fun t x hx => ?_⟩
    · rw [hheap',Kv _ _ _ hrc];exact R'
    · rw [hheap',Kv _ _ _ hrc];exact E.trans E'
    · cases o.dst<;>simp [Act.put,hts]
    · have hm':=hdf.evo E'
      cases o.dst<;>exact hm'
    · rw [hheap',Kv _ _ _ hrc]
      rw [hslot',hrdst,hdst] at hx
      cases hdo:o.dst with
      | none=>
        rw [hdo] at hx
        simp only [wQ] at hx
        exact (hslots t x hx).mono E'
      | some d=>
        rw [hdo] at hx
        simp only [wQ] at hx
        rw [Kn a d v t (by rw [hts];exact hdlt d hdo)]
        split at hx
        · rename_i e;rw [if_pos e];cases hx;exact hv
        · rename_i e;rw [if_neg e];exact (hslots t x hx).mono E'
  have hfresh:¬ NS st.next recs (fun k=>listed.getD k false) (st.next+i):=ze4 hex hLi hrlt
  have hL0:∀ k,listed.getD k false=true→k < recs.length:=fun k hk=>by
    rcases Nat.lt_or_ge k listed.size with h | h
    · omega
    · rw [Array.getD_eq_getD_getElem?,Array.getElem?_eq_none h] at hk;cases hk
  have hfreshE:∀ x∈rc.ex,¬ NS st.next recs (fun k=>listed.getD k false) x:=zdx hex hL0 hLi hrc
  have nilE:rc.ex=[]→jP (z8 (NS st.next recs fun k=>listed.getD k false) (st.next+i)) rc.ex=z8 (NS st.next recs fun k=>listed.getD k false) (st.next+i):=fun h=>by rw [h,QL]
  have slotRV:∀ t,t∈o.looksAt ops→RV C g (qa recs (fun k=>listed.getD k false) 0 (za st.heap)) (NS st.next recs fun k=>listed.getD k false) w ((za sti.env t).getD .top) (a.tmps.getD t undef):=fun t ht=>by
    rw [←agreeSlot t ht]
    cases hs:qJ recs (fun k=>listed.getD k false) 0 (za st.env) t with
    | none=>exact .top _
    | some x=>exact hslots t x hs
  have opdRV:∀ x∈o.op.operands,RV C g (qa recs (fun k=>listed.getD k false) 0 (za st.heap)) (NS st.next recs fun k=>listed.getD k false) w (zd sti.env (C.opd x)) (a.eval x):=fun x hx=>by
    cases x with
    | tmp t=>
      refine slotRV t ?_
      simp only [Oper.looksAt,List.mem_append,List.mem_filterMap]
      exact .inl ⟨.tmp t,by simpa using hx,rfl⟩
    | const v=>exact wk v
    | global gg=>exact .top _
    | func f=>
      simp only [Ctx.opd]
      split
      · rename_i k hk
        have:=RV.func (C:=C) (g:=g) (h:=qa recs (fun k=>listed.getD k false) 0 (za st.heap)) (N:=NS st.next recs fun k=>listed.getD k false) (w:=w) k [] [] [] [] rfl rfl (fun j c v hj=>by simp at hj) (fun j c v hj=>by simp at hj)
        rw [yG hk] at this
        exact this
      · exact .top _
  have wantedIs:∀ b,zQ sti.env it.guard=some b→Region.wanted o (yielded ops a.tmps)=b:=fun b hg=>by
    rcases hgd with ⟨h1,h2⟩ | ⟨j,want,t,h1,h2,h3,h4⟩
    · rw [h2] at hg
      simp only [zQ,Option.some.injEq] at hg
      subst hg
      simp [Region.wanted,h1]
    · rw [h4] at hg
      simp only [zQ] at hg
      simp only [Region.wanted,h1,yielded,h2,ZaI]
      have hlt:t < a.tmps.size:=by rw [hts];exact h3
      have hv:=slotRV t (by simp only [Oper.looksAt,List.mem_append];exact .inr (by simp [h1,h2]))
      have hgett:a.tmps[t]?=some (a.tmps.getD t undef):=by simp [hlt]
      rw [hgett]
      split at hg
      · rename_i b' e
        rw [e] at hv
        cases hg
        rw [wu hv]
        cases b'<;>cases want<;>rfl
      · rename_i e
        rw [e] at hv
        cases hg
        generalize a.tmps.getD t undef=u at hv
        cases hv
        cases want<;>rfl
      · cases hg
  unfold wpOpIn
  simp only [ho]
  unfold EvD at hev
  split at hev
  · rename_i hg
    rw [wantedIs false hg]
    simp only [Bool.false_eq_true,if_false]
    obtain ⟨h1,h2,h3⟩:=hev
    refine ⟨fun f _=>Zj _ f,?_⟩
    have hE:=Evo.add g (qa recs (fun k=>listed.getD k false) 0 (za st.heap)) (NS st.next recs fun k=>listed.getD k false) w (st.next+i)
    refine finish undef w g ?_ ?_ ?_
    · rw [h2,nilE h3];exact hE
    · rw [h2,nilE h3];exact R.add _
    · rw [h1];exact .undef
  · rename_i hg
    rw [wantedIs true hg]
    simp only [if_true]
    refine ⟨fun f _=>Zj _ f,?_⟩
    split at hev
    · rename_i f args hcall
      rw [hcall] at hop
      obtain ⟨ags,S,rfl⟩:=J9 hop
      obtain ⟨cc,hcc⟩:=S.isCall
      split at hev
      · rename_i f' first caps hfv
        obtain ⟨hcallable,hcalls⟩:=hev
        obtain ⟨vf,vc,hrvs,hrun0⟩:=XW opdRV S hfv
        have hrun':=hrun0 w hcallable
        rw [Oper.semAt_eq _ _ _ (fun c hc=>by rw [hcc] at hc;cases hc),hrun']
        simp only [Oper.uponIn]
        refine ⟨fun h=>(by rw [QH] at h;cases h),VY ?_⟩
        have harr:vf.toArray++ags.map a.eval++vc.toArray=(vf++ags.toList.map a.eval++vc).toArray:=by apply Array.ext';simp
        rw [harr]
        refine (hcalls g _ _ w _ agreeHeap hfreshE R hrvs).mono ?_
        rintro e w' ⟨v,g',rfl,E',R',hv⟩
        have hE:=Evo.add g' (hup rc.ups (qa recs (fun k=>listed.getD k false) 0 (za st.heap))) (jP (NS st.next recs fun k=>listed.getD k false) rc.ex) w' (st.next+i)
        have hpe:z8 (jP (NS st.next recs fun k=>listed.getD k false) rc.ex) (st.next+i)=jP (z8 (NS st.next recs fun k=>listed.getD k false) (st.next+i)) rc.ex:=by
          funext x;simp only [z8,jP,eq_iff_iff]
          constructor
          · rintro ((h | h) | h)
            · exact .inl (.inl h)
            · exact .inr h
            · exact .inl (.inr h)
          · rintro ((h | h) | h)
            · exact .inl (.inl h)
            · exact .inr h
            · exact .inl (.inr h)
        have hR:=R'.add (st.next+i)
        have hV:=hv.mono hE
        rw [hpe] at hE hR hV
        exact finish v w' g' (E'.trans hE) hR hV
      · exact hev.elim
    · rename_i hncall
      obtain ⟨hev1,hrd,hexn⟩:=hev
      have hev2:evalOp it.op (zd sti.env) (qa recs (fun k=>listed.getD k false) 0 (za st.heap)) (st.next+i)=some (rc.r,rc.ups):=by
        rw [Ks (h:=za sti.heap) (fun x hx=>agreeHeap x (by rw [hrd];exact hx)),←hnext]
        exact hev1
      obtain ⟨v,w',hran,g',E',R',hv⟩:=Kl hop g _ _ w (st.next+i) (zd sti.env) a.eval rc.r rc.ups R hfresh opdRV hev2
      rw [Oper.semAt_eq _ _ _ (fun c hc=>by rw [hc] at hop;simp [yf] at hop)]
      rw [←nilE hexn] at E' R' hv
      rcases hran with hran | ⟨hran,rfl⟩
      · rw [hran];exact finish v w' g' E' R' hv
      · rw [hran];exact finish undef w' g' E' R' hv
  · exact hev.elim
theorem kK (n k:Nat):(Array.replicate n false).getD k false=false:=by
  rw [Array.getD_eq_getD_getElem?,Array.getElem?_replicate]
  split<;>rfl
theorem zdz {listed:Array Bool} {i:Nat} (h:i < listed.size) (hf:listed.getD i false=false):((listed.setIfInBounds i true).toList.countP (· == false))+1=listed.toList.countP (· == false):=by
  have hl:i < listed.toList.length:=by simpa using h
  have hv:listed.toList[i]=false:=by simpa [h] using hf
  rw [Array.toList_setIfInBounds,List.countP_set hl]
  have hp:0 < listed.toList.countP (· == false):=List.countP_pos_iff.2 ⟨listed.toList[i],List.getElem_mem hl,by simp [hv]⟩
  simp only [hv]
  have e1:((false == false)=true):=rfl
  have e2:¬ ((true == false)=true):=by simp
  rw [if_pos e1,if_neg e2]
  omega
theorem zdA {ops:Array Oper} {items:List AItem} {recs:List Rec} {st st':St} {g0:Gh} {w0:World} (hm:mapO (j9 C nt.n ops) ops.toList=some items) (hrun:Za C items st recs st')
    (hd:wO ops (Region.before ops).toList=true) (hmem:ZM (Region.before ops).toList recs=true) (hex:Ve st.next recs) {Q:Exit→Act→World→Prop}
    (hQ:∀ (L:Nat→Bool) a w,(∀ k,L k=decide (k < ops.size))→Ku C nt recs g0 st w0 L a w→Q .normal a w) :
    ∀ (fuel:Nat) (listed:Array Bool) (a:Act) (w:World),listed.size=ops.size→X0 ops listed→listed.toList.countP (· == false)≤fuel→Ku C nt recs g0 st w0 (fun k=>listed.getD k false) a w →
      wpAnyIn (fen ro) 0 C.P .any ops Q fuel listed a w:=by
  have done:∀ (listed:Array Bool) (a:Act) (w:World),listed.size=ops.size→(∀ k,k < ops.size→listed.getD k false=true)→Ku C nt recs g0 st w0 (fun k=>listed.getD k false) a w→Q .normal a w:=fun listed a w hsz hall hI=>
    hQ _ a w (fun k=>by
      by_cases hk:k < ops.size
      · rw [hall k hk];simp [hk]
      · have:¬ k < listed.size:=by omega
        simp [hk,this]) hI
  have allOf:∀ (listed:Array Bool),listed.size=ops.size→X0 ops listed→Region.ready .any ops listed=[]→∀ k,k < ops.size→listed.getD k false=true:=fun listed hsz hcl hr k=>by
    induction k using Nat.strongRecOn with
    | _ k ih=>
      intro hk
      cases hc:listed.getD k false with
      | true=>rfl
      | false=>
        have hok:ops[k]?=some (ops[k]'(by omega)):=by simp
        have:k∈Region.ready .any ops listed:=by
          rw [mem_ready]
          refine ⟨?_,_,hok,fun e he hb=>ih e.on (kd hd hok he hb) (by have:=kd hd hok he hb;omega)⟩
          have hlt:k < listed.size:=by omega
          simp [hlt] at hc ⊢
          exact hc
        rw [hr] at this
        cases this
  intro fuel
  induction fuel with
  | zero=>
    intro listed a w hsz hcl hcount hI
    have hall:∀ k,k < ops.size→listed.getD k false=true:=fun k hk=>by
      cases hc:listed.getD k false with
      | true=>rfl
      | false=>
        have hlt:k < listed.toList.length:=by simp;omega
        have hv:listed.toList[k]=false:=by
          have hlt':k < listed.size:=by omega
          simpa [hlt'] using hc
        have:0 < listed.toList.countP (· == false):=List.countP_pos_iff.2 ⟨listed.toList[k],List.getElem_mem hlt,by simp [hv]⟩
        omega
    refine ⟨?_,done listed a w hsz hall hI⟩
    rw [List.eq_nil_iff_forall_not_mem]
    intro k hk
    obtain ⟨hun,o,ho,_⟩:=mem_ready.1 hk
    have hkl:k < ops.size:=(Array.getElem?_eq_some_iff.1 ho).1
    have:=hall k hkl
    have hlt:k < listed.size:=by omega
    simp [hlt] at hun this
    rw [hun] at this
    cases this
  | succ fuel ih=>
    intro listed a w hsz hcl hcount hI
    refine ⟨fun hr=>done listed a w hsz (allOf listed hsz hcl hr) hI,fun i hi => ?_⟩
    obtain ⟨hun,o,ho,hready⟩:=mem_ready.1 hi
    have hil:i < ops.size:=(Array.getElem?_eq_some_iff.1 ho).1
    have hLi:listed.getD i false=false:=by
      have hlt:i < listed.size:=by omega
      simp [hlt] at hun ⊢
      exact hun
    refine zdy hm hrun hd hmem hex hsz hcl hi hI fun a' w' hI'=>ih _ a' w' (by simpa using hsz) ?_ ?_ hI'
    · intro j oj hoj hl e he hb
      by_cases hji:j=i
      · subst hji
        rw [ho] at hoj
        cases hoj
        exact getD_set_true (hready e he hb)
      · rw [getD_set_ne false (fun h=>hji h.symm)] at hl
        exact getD_set_true (hcl j oj hoj hl e he hb)
    · have:=zdz (listed:=listed) (by omega) hLi
      omega
theorem Xo {C:CtxY} {ord:List Nat} {items:List AItem} {ks:Option (List Nat)} {K:Exit→St→Prop} {st st':St} {recs:List Rec} (hrun:Za C items st recs st') (hmem:ZM ord recs=true) (hex:Ve st.next recs) (M:Nat) (hM:st'.next≤M) (hM2:∀ rc∈recs,∀ i∈rc.ex,i < M) (hK:K .normal (St.keep ⟨st'.env,st'.heap,M⟩ ks)) :
    awp C nt (.region true ord items ks) K st:=by
  intro code hc g a w R hI
  obtain ⟨id,ops,rfl,hm,hdraw⟩:=Xa hc
  obtain ⟨hmix,rfl,hd⟩:=hdraw rfl
  obtain ⟨hlen,_⟩:=z7 hm
  have hlo:items.length=ops.size:=by rw [hlen];simp
  refine wpIn_region_any hmix (zdA (g0:=g) (w0:=w) hm hrun hd hmem hex ?_ ops.size _ a w.drew (by simp) ?_ (by simp [List.countP_replicate]) ?_)
  · intro L a' w' hL hI
    obtain ⟨g',R',E',hts,hdf,hslots⟩:=hI
    obtain ⟨h1,h2,h3⟩:=Xn items st recs st' 0 L hrun (fun j hj=>by rw [hL];simp;omega)
    have hrl:=ZO hrun
    have hN:∀ x,NS st.next recs L x→x < M:=by
      rintro x (h | ⟨k,hk,rfl⟩ | ⟨k,rc,hk,h4,h5⟩)
      · omega
      · rw [hL] at hk;simp at hk;omega
      · exact hM2 rc (List.mem_of_getElem? h4) x h5
    rw [←h2] at R' E' hslots
    rw [←h1] at hslots
    have EN:Evo g' (za st'.heap) (NS st.next recs L) w' g' (za st'.heap) (· < M) w':={Evo.refl g' (za st'.heap) (NS st.next recs L) w' with next:=hN}
    have R2:RH C g' (za st'.heap) (· < M) w':=⟨R'.inj,fun i b hb=>⟨(R'.lt i b hb).1,hN i (R'.lt i b hb).2⟩,fun i o ho=>hN i (R'.key i o ho),fun i b o hb ho=>(R'.obj i b o hb ho).keep EN rfl rfl,R'.tip0,R'.zlt,R'.fix⟩
    have Rel':Rel C nt g' ⟨st'.env,st'.heap,M⟩ a' w':=⟨⟨hts,hdf,fun t x hx=>(hslots t x hx).mono EN⟩,R2⟩
    refine ⟨_,g',hK,Rel'.keep ks,?_⟩
    have:=E'.trans EN
    cases ks<;>exact this
  · intro j o ho hl
    rw [kK] at hl;cases hl
  · have hN:NS st.next recs (fun k=>(Array.replicate ops.size false).getD k false)=(· < st.next):=by
      funext x
      simp only [NS,eq_iff_iff]
      constructor
      · rintro (h | ⟨k,hk,rfl⟩ | ⟨k,rc,hk,_,_⟩)
        · exact h
        · rw [kK] at hk;cases hk
        · rw [kK] at hk;cases hk
      · exact .inl
    have hL:(fun k=>(Array.replicate ops.size false).getD k false)=fun _=>false:=by funext k;exact kK _ _
    have hs:∀ (l:List Rec) (k:Nat) (f:Nat→Option AV),qJ l (fun _=>false) k f=f:=by
      intro l
      induction l with
      | nil=>intro k f;rfl
      | cons r l ih=>intro k f;simp [qJ,ih]
    have hh:∀ (l:List Rec) (k:Nat) (f:Nat→Option Zaf),qa l (fun _=>false) k f=f:=by
      intro l
      induction l with
      | nil=>intro k f;rfl
      | cons r l ih=>intro k f;simp [qa,ih]
    have hE:=Evo.drew g (za st.heap) (· < st.next) w
    rw [hL] at hN
    rw [hL]
    refine ⟨g,?_,?_,R.env.size,R.env.defers,fun t x hx => ?_⟩
    · rw [hh,hN];exact R.heap.drew
    · rw [hh,hN];exact hE
    · rw [hs] at hx
      rw [hh,hN]
      exact (R.env.slot t x hx).mono hE
end
end
end Go.Proofs.YtlpmnmbebkdocaaGreatDoor
