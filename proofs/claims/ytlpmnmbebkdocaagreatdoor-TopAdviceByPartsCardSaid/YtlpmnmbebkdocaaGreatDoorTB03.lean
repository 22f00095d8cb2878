/-
  The abstract machine: what code asks of an abstract state, and the rules.
  The abstract machine: the rules for code.
  The abstract machine: calls; entering a function.
  The abstract machine: entering a function.
  The abstract machine: forgetting slots, objects and names.
  The abstract machine: regions that draw their order. The text's order serves every order that the edges allow.
  The abstract machine: regions that draw their order, the theorem.
  The abstract machine: the rule for regions that draw their order.
-/
import Derived.Test.YtlpmnmbebkdocaaGreatDoorTB02
import Derived.RangeFuncSeq
import Derived.RangeFuncCalls
import Derived.OrdersIn
import Derived.TacticsIn
import Derived.Deep.LoopGhost
import Derived.Scope
open List renaming getElem?_eq_some_iff → ua, mem_of_getElem? → uc, all_eq_true → ue, getElem?_eq_getElem → ui, getElem_mem → uq, getElem?_map → uu, mem_cons_self → uz, getElem?_take_of_lt → uA, mem_cons → uB, any_eq_true → uC, length_eq_one_iff → uD, getElem?_append → uG, mem_cons_of_mem → uH, countP_pos_iff → uJ, getElem?_drop → uL, filter_cons → uO, mem_append → uQ, map_cons → uR, range → uW
open Option renaming map_eq_some_iff → ud
open Bool renaming or_eq_true → uh, and_eq_true → uj, false_eq_true → ul, not_eq_true' → uN
open Nat renaming lt_of_lt_of_le → ug, le_refl → uk, eq_zero_or_pos → ur, pos_of_ne_zero → ut, lt_or_ge → uv, add_zero → uw, le_max_right → ux, le_max_left → uy, zero_add → uE, strongRecOn → uF, zero_lt_one → uP, sub_zero → uS, le_trans → uT, succ_mul → uU, add_mul → uV
open Array renaming getElem?_eq_some_iff → ub, getElem?_eq_none → um, replicate → un, getD_eq_getD_getElem? → uo, getElem?_push → uI, ext' → uK, foldl_toList → uM
namespace Go.Proofs.YtlpmnmbebkdocaaGreatDoor
open Go.RowKit
set_option linter.unusedSimpArgs false
set_option linter.unusedVariables false
section
def yq (C : Ctx) (f : Nat) : Prop := ∃ fn, C.P.funcs[C.ew f]? = some fn ∧ fn.body.isSome = true ∧ (fn.name == "runtime.NumGoroutine") = false
def NT (Z:Nat→Nat) (w:World) (xs:List IV) (vs:List Value):Prop:=gY Z w xs vs
def aJ (C:Ctx) (f:Nat) (args:List IV) (r:IV):Prop:=yq C f ∧
 ∀ (Z:Nat→Nat) (w:World) (vs:List Value),(∀ b,0 < Z b→b < w.heap.size)→(C.tabs.p w∧C.tabs.n≤w.heap.size)→NT Z w args vs →
  Calls C.P (C.ew f) vs.toArray w fun e w'=>∃ v Z',e=.returned v∧RI Z' w' r v∧(∀ b,b < w.heap.size→Z' b=Z b)∧(∀ b,0 < Z' b→b < w'.heap.size)∧Below w.heap.size w w'
def nG (C:Ctx) (g:Gh) (h:Nat→Option aF) (N:Nat→Prop) (w:World) (xs:List AV) (vs:List Value):Prop:=
 xs.length=vs.length∧∀ (j:Nat) (x:AV) (u:Value),xs[j]?=some x→vs[j]?=some u→RV C g h N w x u
def bJ (C:Ctx) (f:Nat) (args:List AV) (heap:List (Nat×aF)) (next:Nat) (K:AV→List (Nat×aF)→Nat→Prop):Prop:=yq C f ∧
 ∀ (g:Gh) (w:World) (vs:List Value),RH C g (za heap) (· < next) w→nG C g (za heap) (· < next) w args vs →
  Calls C.P (C.ew f) vs.toArray w fun e w'=>∃ v r heap' next' g',e=.returned v∧K r heap' next' ∧
   b8 g (za heap) (· < next) w g' (za heap') (· < next') w'∧RH C g' (za heap') (· < next') w'∧RV C g' (za heap') (· < next') w' r v
structure bA extends Ctx where
 ro:Option Nat
 eO:Option (Gh×St×World)
 Y:Nat→Nat→List AV→List (Nat×aF)→Nat→(AV→List (Nat×aF)→Nat→Prop)→Prop
 og:∀ l id args heap next (K K':AV→List (Nat×aF)→Nat→Prop),(∀ r h n,K r h n→K' r h n)→Y l id args heap next K→Y l id args heap next K'
 C3:∀ l id args heap next K,Y l id args heap next K→∀ (g:Gh) (w:World) (vs:List Value),RH toCtx g (za heap) (· < next) w→nG toCtx g (za heap) (· < next) w args vs→(∀ R s pe,za heap id=some (.lp l R s pe)→g.ρ id=some l) →
  (match eO with | none=>True | some (g0,cM,w0)=>b8 g0 (za cM.heap) (· < cM.next) w0 g (za heap) (· < next) w) →
  YieldAt Fence.wide 0 P l vs.toArray w fun e w'=>∃ v r heap' next' g',e=.returned v∧K r heap' next' ∧
   b8 g (za heap) (· < next) w g' (za heap') (· < next') w'∧RH toCtx g' (za heap') (· < next') w'∧RV toCtx g' (za heap') (· < next') w' r v
instance:Coe bA Ctx:=⟨bA.toCtx⟩
def tL:Nat→Nat→List AV→List (Nat×aF)→Nat→(AV→List (Nat×aF)→Nat→Prop)→Prop:=fun _ _ _ _ _ _=>False
def Ctx.plain (C:Ctx):bA:={C with ro:=none,eO:=none,Y:=tL,og:=fun _ _ _ _ _ _ _ _ h=>h,C3:=fun _ _ _ _ _ _ h=>h.elim}
def bA.inv (C:bA) (g:Gh) (st:St) (w:World):Prop:=match C.eO with
 | none=>True
 | some (g0,cM,w0)=>b8 g0 (za cM.heap) (· < cM.next) w0 g (za st.heap) (· < st.next) w
theorem bA.inv.eN {C:bA} {g g':Gh} {st aY:St} {w w':World} (h:C.inv g st w) (E:b8 g (za st.heap) (· < st.next) w g' (za aY.heap) (· < aY.next) w'):C.inv g' aY w':=by
 unfold bA.inv at *
 split
 ·trivial
 ·rename_i e;rw [e] at h;exact b8.trans h E
def o4:Option Nat→Fence
 | none=>Fence.wide
 | some l=>Fence.wide.inRound l
theorem QF (ro:Option Nat) (f:FuncId):(o4 ro).fn f:=by cases ro<;>trivial
theorem Xg (ro:Option Nat):(o4 ro).depth=none:=by cases ro<;>rfl
theorem K7 {ro:Option Nat} {n:Nat} {P:Program} {f:FuncId} {args:Array Value} {w:World} {R:Ending→World→Prop} (h:Calls P f args w R):CallsIn (o4 ro) n P f args w R:=by
 cases ro with
 | none=>exact callsIn_wide.2 h
 | some l=>exact CallsIn.inRound l (callsIn_wide.2 h)
theorem NU {ro:Option Nat} {n:Nat} {P:Program} {l:Nat} {f:FuncId} {tmps:Array Value} {assign body:Code} {w:World} {R:Ending→World→Prop} (h:RoundIn Fence.wide n P l f tmps assign body w R):RoundIn (o4 ro) n P l f tmps assign body w R:=by
 cases ro<;>exact h
def qY:Nat:=999999
def zo {α:Type}:List (Nat×α)→Nat→α→List (Nat×α)
 | [],i,x=>[(i,x)]
 | (k,v)::r,i,x=>if k=i then (i,x)::r else if k=qY then (i,x)::(k,v)::r else (k,v)::zo r i x
theorem zr {α:Type} (l:List (Nat×α)) (i:Nat) (x:α) (j:Nat):za (zo l i x) j=if i=j then some x else za l j:=by
 induction l with
 | nil=>simp [zo,za]
 | cons p r ih=>
  obtain ⟨k,v⟩:=p
  simp only [zo]
  split
  ·rename_i hk
   subst hk
   simp only [za]
   split<;>rfl
  ·rename_i hk
   split
   ·simp only [za]
   ·simp only [za,ih]
    split
    ·rename_i hkj
     rw [if_neg (by omega)]
    ·rfl
def zL:List (Nat×aF)→List (Nat×aF)→List (Nat×aF)
 | [],heap=>heap
 | (k,o)::r,heap=>zo (zL r heap) k o
theorem jN (aN heap:List (Nat×aF)):za (zL aN heap)=bB aN (za heap):=by
 induction aN with
 | nil=>rfl
 | cons p r ih=>
  obtain ⟨k,o⟩:=p
  funext i
  simp only [zL,bB,zr,ih]
def St.put (st:St) (dst:Option Nat) (r:AV):St:=match dst with
 | some t=>{st with env:=zk st.env t r}
 | none=>st
def St.after (st:St) (dst:Option Nat) (r:AV) (aN:List (Nat×aF)):St:=
 St.put {st with heap:=zL aN st.heap,next:=st.next+1} dst r
def qd (env:List (Nat×AV)):Option (Nat×Bool)→Option Bool
 | none=>some true
 | some (t,want)=>match (za env t).getD .top with
  | .ak (.bool b)=>some (b == want)
  | .undef=>some false
  | _=>none
def vS (C:bA) (it:aM) (st:St) (K:St→Prop):Prop:=
 match qd st.env it.guard with
 | some false=>K (st.after it.dst .undef [])
 | some true=>match it.op with
  | .call f args=>match zd st.env f with
   | .func f' first bq=>bJ C f' (first++args.map (zd st.env)++bq) st.heap st.next fun r heap' next'=>K (St.put {env:=st.env,heap:=heap',next:=next'+1} it.dst r)
   | .eE l id=>C.Y l id (args.map (zd st.env)) st.heap st.next fun r heap' next'=>K (St.put {env:=st.env,heap:=heap',next:=next'+1} it.dst r)
   | _=>False
  | op=>match ai op (zd st.env) (za st.heap) st.next with
   | some (r,aN)=>K (st.after it.dst r aN)
   | none=>False
 | none=>False
def AB (C:bA):List aM→(St→Prop)→St→Prop
 | [],K,st=>K st
 | it::rest,K,st=>vS C it st (AB C rest K)
section
variable {C:Ctx} {nt:Fr} {g g':Gh} {st aY:St} {a:Act} {w w':World}
def dI (g:Gh) (st:St) (w:World) (g':Gh) (aY:St) (w':World):Prop:=b8 g (za st.heap) (· < st.next) w g' (za aY.heap) (· < aY.next) w'
theorem dI.refl (g:Gh) (st:St) (w:World):dI g st w g st w:=b8.refl _ _ _ _
theorem dI.trans {g₁ g₂ g₃:Gh} {s₁ s₂ s₃:St} {w₁ w₂ w₃:World} (A:dI g₁ s₁ w₁ g₂ s₂ w₂) (B:dI g₂ s₂ w₂ g₃ s₃ w₃):dI g₁ s₁ w₁ g₃ s₃ w₃:=b8.trans A B
theorem FU (a:Act) (d:Nat) (v:Value) (t:Nat) (hd:d < a.tmps.size):(a.put (some d) v).tmps.getD t undef=if d=t then v else a.tmps.getD t undef:=by
 simp only [Act.put]
 by_cases h:d=t
 ·subst h;simp [hd]
 ·rw [if_neg h];simp [Array.getElem?_setIfInBounds_ne h]
theorem RE.put {env:List (Nat×AV)} {h:Nat→Option aF} {N:Nat→Prop} (R:RE C nt g env h N a w) (d:Nat) (hd:d < nt.n) {x:AV} {v:Value} (hx:RV C g h N w x v):RE C nt g (zk env d x) h N (a.put (some d) v) w:=by
 refine ⟨by simp [Act.put,R.size],R.defers,fun t y hy => ?_⟩
 rw [FU a d v t (by rw [R.size];exact hd)]
 rw [zm] at hy
 split at hy
 ·rename_i e;rw [if_pos e];cases hy;exact hx
 ·rename_i e;rw [if_neg e];exact R.slot t y hy
theorem Rel.put (R:Rel C nt g st a w) (dst:Option Nat) (hd:∀ d,dst=some d→d < nt.n) {x:AV} {v:Value} (hx:RV C g (za st.heap) (· < st.next) w x v) :
  Rel C nt g (st.put dst x) (a.put dst v) w:=by
 cases dst with
 | none=>exact R
 | some d=>exact ⟨R.env.put d (hd d rfl) hx,R.heap⟩
theorem jW (n:Nat):qn (· < n) n=(· < n+1):=by
 funext i
 simp only [qn,eq_iff_iff]
 omega
theorem RE.mono {env:List (Nat×AV)} {h h':Nat→Option aF} {N N':Nat→Prop} (R:RE C nt g env h N a w) (E:b8 g h N w g' h' N' w'):RE C nt g' env h' N' a w':=
 ⟨R.size,R.defers.eN E,fun t x hx=>(R.slot t x hx).mono E⟩
theorem K8 (R:Rel C nt g st a w) {dst:Option Nat} (hd:∀ d,dst=some d→d < nt.n) {r:AV} {aN:List (Nat×aF)} {v:Value} (hg:Good C g (za st.heap) (· < st.next) w st.next r aN v w') :
  ∃ g',Rel C nt g' (st.after dst r aN) (a.put dst v) w'∧dI g st w g' (st.after dst r aN) w':=by
 obtain ⟨g',E,H,hv⟩:=hg
 rw [jW] at E H hv
 rw [←jN] at E H hv
 refine ⟨g',?_,?_⟩
 ·have R':Rel C nt g' {st with heap:=zL aN st.heap,next:=st.next+1} a w':=⟨R.env.mono E,H⟩
  exact R'.put dst hd hv
 ·cases dst<;>exact E
theorem Zx (R:Rel C nt g st a w) (x:Operand):RV C g (za st.heap) (· < st.next) w (zd st.env (C.bk x)) (a.eval x):=by
 cases x with
 | tmp t=>
  simp only [Ctx.bk,zd,Act.eval]
  cases h:za st.env t with
  | none=>exact .top _
  | some y=>exact R.env.slot t y h
 | const v=>exact vk v
 | global gg=>exact .top _
 | func f=>
  simp only [Ctx.bk]
  split
  ·rename_i i hi
   have:=RV.func (C:=C) (g:=g) (h:=za st.heap) (N:=(· < st.next)) (w:=w) i [] [] [] [] rfl rfl (fun j c v hj=>by simp at hj) (fun j c v hj=>by simp at hj)
   rw [kV hi] at this
   exact this
  ·exact .top _
theorem wW {ops:Array Oper} {o:Oper} {it:aM} (hc:xx C nt.n ops o=some it):kl C o.op=some it.op∧it.dst=o.dst∧(∀ d,o.dst=some d→d < nt.n) ∧
  ((o.guard=none∧it.guard=none)∨∃ j want t,o.guard=some (j,want)∧(ops[j]?).bind (·.dst)=some t∧t < nt.n∧it.guard=some (t,want)):=by
 unfold xx at hc
 split at hc
 ·rename_i ao hao
  split at hc
  ·rename_i hd
   have BS:∀ d,o.dst=some d→d < nt.n:=fun d h=>by simpa [h,FT] using hd
   split at hc
   ·rename_i hg;cases hc;exact ⟨hao,rfl,BS,.inl ⟨hg,rfl⟩⟩
   ·rename_i j want hg
    split at hc
    ·rename_i t ht
     split at hc
     ·rename_i o5;cases hc;exact ⟨hao,rfl,BS,.inr ⟨j,want,t,hg,ht,o5,rfl⟩⟩
     ·cases hc
    ·cases hc
  ·cases hc
 ·cases hc
theorem Xh (R:Rel C nt g st a w) {ops:Array Oper} {o:Oper} {it:aM} (hc:xx C nt.n ops o=some it) {b:Bool} (hg:qd st.env it.guard=some b) :
  Region.wanted o (yielded ops a.tmps)=b:=by
 obtain ⟨_,_,_,hgd⟩:=wW hc
 rcases hgd with ⟨h1,h2⟩ | ⟨j,want,t,h1,h2,h3,h4⟩
 ·rw [h2] at hg
  simp only [qd,Option.some.injEq] at hg
  subst hg
  simp [Region.wanted,h1]
 ·rw [h4] at hg
  simp only [qd] at hg
  simp only [Region.wanted,h1,yielded,h2,aV]
  have hlt:t < a.tmps.size:=by rw [R.env.size];exact h3
  cases hs:za st.env t with
  | none=>simp [hs] at hg
  | some x=>
   have hv:=R.env.slot t x hs
   simp only [hs,Option.getD_some] at hg
   have cT:a.tmps[t]?=some (a.tmps.getD t undef):=by simp [hlt]
   rw [cT]
   split at hg
   ·rename_i b'
    cases hg
    rw [vr hv]
    cases b'<;>cases want<;>rfl
   ·cases hg
    generalize a.tmps.getD t undef=u at hv
    cases hv
    cases want<;>rfl
   ·cases hg
inductive eI (C:Ctx) (o:Op) (f:bf) (cI:Array Operand):Prop where
 | value (fo:Operand) (ts:Array TypeId) (ho:o=.call {callee:=.value fo,args:=cI,argTypes:=ts}) (hf:f=C.bk fo)
 | inv (r:Nat) (name:String) (ts:Array TypeId) (ho:o=.call {callee:=.invoke (.tmp r) name,args:=cI,argTypes:=ts}) (hf:f=.m r (yl C.P C.mi name C.ifs))
theorem WS {o:Op} {f:bf} {args:List bf} (hc:kl C o=some (.call f args)):∃ cI,eI C o f cI∧args=cI.toList.map C.bk:=by
 unfold kl at hc
 split at hc
 all_goals first
  | (cases hc;done)
  | (simp only [Option.some.injEq,cP.call.injEq] at hc;obtain ⟨rfl,rfl⟩:=hc;first | exact ⟨_,.value _ _ rfl rfl,rfl⟩ | exact ⟨_,.inv _ _ _ rfl rfl,rfl⟩)
  | (repeat' split at hc)<;>(cases hc;done)
  | (unfold Wd at hc;(repeat' split at hc)<;>(cases hc;done))
  | (unfold yR at hc;(repeat' split at hc)<;>(cases hc;done))
end
end
section
section
variable {C:bA} {nt:Fr} {g g':Gh} {st aY:St} {a:Act} {w w':World}
def Post (C:Ctx) (nt:Fr) (g0:Gh) (cM:St) (w0:World) (K:Exit→St→Prop):Exit→Act→World→Prop:=
 fun e a' w'=>∃ aY g',K e aY∧Rel C nt g' aY a' w'∧dI g0 cM w0 g' aY w'
theorem NV {C:Ctx} {o:Oper} {fo:Operand} {cI:Array Operand} {ts:Array TypeId} (ho:o.op=.call {callee:=.value fo,args:=cI,argTypes:=ts}) {val:Operand→Value} {f:Nat} {first bq:Array Value}
  (hf:val fo=.func (.func (C.ew f)) first bq) (hc:yq C f) (w:World):(execOp val o).run C.P w=.ok (.enter (C.ew f) (first++cI.map val++bq)) w:=by
 obtain ⟨fn,h1,h2,h3⟩:=hc
 have h4:¬ fn.body=none:=fun h=>by simp [h] at h2
 have h5 : ¬ fn.name = "runtime.NumGoroutine" := fun h => by simp [h] at h3
 simp [execOp,ho,resolve,Deferred.ofValue,hf,invoke,callFunc,h1,h4,h5]
theorem yT {P:Program} {mi:List Nat} {name:String}:∀ {ts:List TypeId} {t i:Nat},za (yl P mi name ts) t=some i→∃ f,VD P t name=some f∧Jf mi f=some i
 | [],t,i,h=>by cases h
 | u::r,t,i,h=>by
  unfold yl at h
  split at h
  ·rename_i f hf
   split at h
   ·rename_i j hj
    simp only [za] at h
    split at h
    ·rename_i e
     cases h
     subst e
     exact ⟨f,hf,hj⟩
    ·exact yT h
   ·exact yT h
  ·exact yT h
theorem NW {P:Program} {t:TypeId} {name:String} {f:FuncId} (h:VD P t name=some f) (k:Nat) (v:Value) (w:World):(method (k+1) t v name).run P w=.ok (f,v) w:=by
 unfold VD at h
 split at h
 ·rename_i i hi
  split at h
  ·rename_i m hm
   split at h
   ·rename_i f' fs hp hf hu
    cases h
    have NX:(typeInfo t).run P w=.ok i w:=by simp [typeInfo,Sem.run_bind,hi]
    simp only [method,Sem.run_bind,NX,Result.andThen_ok,hm,hp,follow,Sem.run_pure,hf,receiverAt,run_underlying hu,Place.get]
   ·cases h
  ·cases h
 ·cases h
theorem NY {o:Oper} {fo:Operand} {cI:Array Operand} {ts:Array TypeId} (ho:o.op=.call {callee:=.value fo,args:=cI,argTypes:=ts}) {val:Operand→Value} {l:Nat}
  (hf:val fo=.func (.yield l) #[] #[]) {P:Program} (w:World):(execOp val o).run P w=(Instr.yield l (cI.map val)).run P w:=by
 simp [execOp,ho,resolve,Deferred.ofValue,hf,invoke]
open Classical in
theorem VP {F:Fence} {n:Nat} {P:Program} {c:Code} {Q:Exit→Act→World→Prop} {a:Act} {w:World} (J:Nat→Act→World→Prop) (m:Nat) (h0:J m a w)
  (round:∀ m a w,J m a w→c.wpIn F n P (Exit.then (fun a' w'=>∃ m',m' < m∧J m' a' w') Q) a w):(Code.loop c).wpIn F n P Q a w:=by
 have least:∀ (p:Nat→Prop) (m:Nat),p m→∃ k,p k∧∀ j,p j→k≤j:=by
  intro p m
  induction m using uF with
  | _ m ih=>
   intro hm
   by_cases h:∃ j,j < m∧p j
   ·obtain ⟨j,hj,hp⟩:=h;exact ih j hj hp
   ·exact ⟨m,hm,fun j hj=>Nat.le_of_not_lt fun hlt=>h ⟨j,hlt,hj⟩⟩
 let μ:Act→World→Nat:=fun a w=>if h:∃ k,J k a w∧∀ j,J j a w→k≤j then h.choose else 0
 have hμ:∀ a w m,J m a w→J (μ a w) a w∧μ a w≤m:=fun a w m hm=>by
  have h:=least (fun k=>J k a w) m hm
  show J (if h:∃ k,J k a w∧∀ j,J j a w→k≤j then h.choose else 0) a w∧(if h:∃ k,J k a w∧∀ j,J j a w→k≤j then h.choose else 0)≤m
  rw [dif_pos h]
  exact ⟨h.choose_spec.1,h.choose_spec.2 m hm⟩
 refine wpIn_loop (fun a w=>∃ m,J m a w) μ ⟨m,h0⟩ fun a w ⟨m,hm⟩ => ?_
 refine Code.wpIn_mono ?_ (round (μ a w) a w (hμ a w m hm).1)
 intro e a' w' q
 cases e with
 | normal=>
  obtain ⟨m',hlt,hJ⟩:=q
  exact ⟨⟨m',hJ⟩,Nat.lt_of_le_of_lt (hμ a' w' m' hJ).2 hlt⟩
 | _=>exact q
theorem VQ {C:Ctx} {g:Gh} {h:Nat→Option aF} {N:Nat→Prop} {w:World} {o:Oper} {env:List (Nat×AV)} {val:Operand→Value} (hv:∀ x∈o.op.operands,RV C g h N w (zd env (C.bk x)) (val x))
  {f:bf} {cI:Array Operand} {f':Nat} {first bq:List AV} (S:eI C o.op f cI) (hf:zd env f=.func f' first bq) :
  ∃ vf vc:List Value,nG C g h N w (first++(cI.toList.map C.bk).map (zd env)++bq) (vf++(cI.toList.map val)++vc) ∧
   ∀ w,yq C f'→(execOp val o).run C.P w=.ok (.enter (C.ew f') (vf.toArray++cI.map val++vc.toArray)) w:=by
 cases S with
 | value fo ts ho hfo=>
  subst hfo
  have C4:=hv fo (by simp [ho,Op.operands,Call.operands])
  rw [hf] at C4
  generalize hval:val fo=v at C4
  cases C4 with
  | func _ _ _ vf vc hlf hlc FV eV=>
   refine ⟨vf,vc,⟨by simp [hlf,hlc],fun j x u hj hu => ?_⟩,fun w hc=>NV ho hval hc w⟩
   rw [List.append_assoc,uG] at hj hu
   rw [hlf] at hj
   split at hj
   ·rename_i hlt;rw [if_pos hlt] at hu;exact FV j x u hj hu
   ·rename_i hlt
    rw [if_neg hlt] at hu
    rw [uG] at hj hu
    simp only [List.length_map] at hj hu
    split at hj
    ·rename_i ig
     rw [if_pos ig] at hu
     simp only [uu,ud] at hj hu
     obtain ⟨o1,⟨y,hy,rfl⟩,rfl⟩:=hj
     obtain ⟨z,hz,rfl⟩:=hu
     rw [hy] at hz
     cases hz
     exact hv y (by simp only [ho,Op.operands,Call.operands];simp;exact .inr (by simpa using uc hy))
    ·rename_i ig
     rw [if_neg ig] at hu
     exact eV _ x u hj hu
 | inv r name ts ho hfo=>
  subst hfo
  simp only [zd] at hf
  split at hf
  ·rename_i t x e1
   split at hf
   ·rename_i i e2
    cases hf
    obtain ⟨fid,h1,h2⟩:=yT e2
    have BT:=hv (.tmp r) (by simp [ho,Op.operands,Call.operands])
    simp only [Ctx.bk,zd] at BT
    rw [e1] at BT
    generalize hval:val (.tmp r)=v at BT
    cases BT with
    | ak _ _ hr=>
     cases hr with
     | iface _ _ u hr=>
      refine ⟨[u],[],⟨by simp,fun j y z hj hz => ?_⟩,fun w hc => ?_⟩
      ·cases j with
       | zero=>simp at hj hz;subst hj hz;exact .ak _ _ hr
       | succ j=>
        simp only [List.append_nil,List.cons_append,List.nil_append,List.getElem?_cons_succ,uu,ud] at hj hz
        obtain ⟨o1,⟨y',hy,rfl⟩,rfl⟩:=hj
        obtain ⟨z',hz,rfl⟩:=hz
        rw [hy] at hz
        cases hz
        exact hv y' (by simp only [ho,Op.operands,Call.operands];simp;exact .inr (by simpa using uc hy))
      ·obtain ⟨fn,h3,h4,h5⟩:=hc
       have h6:¬ fn.body=none:=fun h=>by simp [h] at h4
       have h7 : ¬ fn.name = "runtime.NumGoroutine" := fun h => by simp [h] at h5
       have hfn:=kV h2
       have hm:=NW h1 (C.P.types.size+99) u w
       have hd:C.P.types.size+Made.depth=C.P.types.size+99+1:=rfl
       have he:(cI.map val).extract 0 cI.size=cI.map val:=by
        apply uK
        simp only [Array.toList_extract,List.extract_eq_take_drop,List.drop_zero,uS,Array.toList_map]
        exact List.take_of_length_le (by simp)
       rw [hfn] at h3 ⊢
       have h0:(#[Value.iface t u]++cI.map val)[0]?=some (.iface t u):=by
        rw [Array.getElem?_append_left (by simp)];rfl
       simp [execOp,ho,resolve,hval,invoke,callMethod,he,callFunc]
       rw [h0]
       simp [Sem.run_bind,hd,hm,h3,h6,h7]
   ·cases hf
  ·cases hf
theorem NZ {C:Ctx} (R:Rel C nt g st a w) {o:Oper} {f:bf} {cI:Array Operand} {f':Nat} {first bq:List AV} (S:eI C o.op f cI) (hf:zd st.env f=.func f' first bq) :
 ∃ vf vc:List Value,nG C g (za st.heap) (· < st.next) w (first++(cI.toList.map C.bk).map (zd st.env)++bq) (vf++(cI.toList.map a.eval)++vc) ∧
  ∀ w,yq C f'→(execOp a.eval o).run C.P w=.ok (.enter (C.ew f') (vf.toArray++cI.map a.eval++vc.toArray)) w:=VQ (fun x _=>Zx R x) S hf
theorem eI.fN {C:Ctx} {o:Op} {f:bf} {cI:Array Operand} (S:eI C o f cI):∃ c,o=.call c:=by
 cases S with
 | value fo ts ho _=>exact ⟨_,ho⟩
 | inv r name ts ho _=>exact ⟨_,ho⟩
theorem eI.eE {C:Ctx} {o:Op} {f:bf} {cI:Array Operand} (S:eI C o f cI) {env:List (Nat×AV)} {l id:Nat} (h:zd env f=.eE l id):∃ fo ts,o=.call {callee:=.value fo,args:=cI,argTypes:=ts}∧f=C.bk fo:=by
 cases S with
 | value fo ts ho hf=>exact ⟨fo,ts,ho,hf⟩
 | inv r name ts ho hf=>
  subst hf
  simp only [zd] at h
  split at h
  ·split at h<;>cases h
  ·cases h
theorem N1 {ops:Array Oper} {o:Oper} {it:aM} (hc:xx C nt.n ops o=some it) {K:St→Prop} (he:vS C it st K) (R:Rel C nt g st a w) (hI:C.inv g st w)
  {next:Act→World→Prop} {Q:Exit→Act→World→Prop}
  (hn:∀ aY g' a' w',K aY→Rel C nt g' aY a' w'→dI g st w g' aY w'→next a' w') :
  if Region.wanted o (yielded ops a.tmps) then o.wpIn (o4 C.ro) 0 C.P a w next Q else next (a.put o.dst undef) w:=by
 obtain ⟨hop,fe,lK,_⟩:=wW hc
 unfold vS at he
 split at he
 ·rename_i hg
  rw [Xh R hc hg]
  simp only [ul,if_false]
  obtain ⟨g',R',E'⟩:=K8 (dst:=it.dst) R (fun d hd=>lK d (fe ▸ hd)) (zx (id:=st.next) R.heap RV.undef)
  rw [fe] at R' he E'
  exact hn _ _ _ _ he R' E'
 ·rename_i hg
  rw [Xh R hc hg]
  simp only [if_true]
  split at he
  ·rename_i f args fZ
   rw [fZ] at hop
   obtain ⟨cI,S,rfl⟩:=WS hop
   obtain ⟨cc,ol⟩:=S.fN
   split at he
   ·rename_i f' first bq tM
    obtain ⟨vf,vc,oq,ot⟩:=NZ R S tM
    obtain ⟨fO,mG⟩:=he
    have hrun:=ot w fO
    refine ⟨fun f _=>QF _ f,?_⟩
    rw [Oper.semAt_eq _ _ _ (fun c hc=>by rw [ol] at hc;cases hc),hrun]
    simp only [Oper.uponIn]
    refine ⟨fun h=>(by rw [Xg] at h;cases h),K7 ?_⟩
    have mH:vf.toArray++cI.map a.eval++vc.toArray=(vf++cI.toList.map a.eval++vc).toArray:=by apply uK;simp
    rw [mH]
    refine (mG g w _ R.heap oq).mono ?_
    rintro e w' ⟨v,r,heap',next',g',rfl,hK,E,H,hv⟩
    have R1:Rel C nt g' {env:=st.env,heap:=heap',next:=next'} a w':=⟨R.env.mono E,H⟩
    have E2:b8 g' (za heap') (· < next') w' g' (za heap') (· < next'+1) w':=by
     have:=b8.add g' (za heap') (· < next') w' next'
     rwa [jW] at this
    have H2:RH C g' (za heap') (· < next'+1) w':=by
     have:=H.add next'
     rwa [jW] at this
    have R2:Rel C nt g' {env:=st.env,heap:=heap',next:=next'+1} a w':=⟨R1.env.mono E2,H2⟩
    have R3:=R2.put it.dst (fun d hd=>lK d (fe ▸ hd)) (hv.mono E2)
    rw [fe] at R3 hK
    refine hn _ _ _ _ hK R3 ?_
    cases hd:o.dst<;>exact b8.trans E E2
   ·rename_i l id tM
    obtain ⟨fo,ts,ho,rfl⟩:=S.eE tM
    have hv:=Zx R fo
    rw [tM] at hv
    generalize hval:a.eval fo=v at hv
    obtain ⟨rfl,C5⟩:v=.func (.yield l) #[] #[]∧∀ R s pe,za st.heap id=some (.lp l R s pe)→g.ρ id=some l:=by cases hv with | eE _ _ _ hp=>exact ⟨rfl,hp⟩
    have oq:nG C g (za st.heap) (· < st.next) w ((cI.toList.map C.bk).map (zd st.env)) (cI.toList.map a.eval):=⟨by simp,fun j x u hj hu=>by
     simp only [uu,ud] at hj hu
     obtain ⟨o1,⟨y,hy,rfl⟩,rfl⟩:=hj
     obtain ⟨z,hz,rfl⟩:=hu
     rw [hy] at hz
     cases hz
     exact Zx R y⟩
    obtain ⟨fn,tmps,assign,body,hy,hR⟩:=C.C3 l id _ _ _ _ he g w _ R.heap oq C5 hI
    have mH:(cI.toList.map a.eval).toArray=cI.map a.eval:=by apply uK;simp
    rw [mH] at hy
    refine ⟨fun f _=>QF _ f,?_⟩
    rw [Oper.semAt_eq _ _ _ (fun c hc=>by rw [ho] at hc;cases hc),NY ho hval,hy]
    simp only [Oper.uponIn]
    refine ⟨fun h=>(by rw [Xg] at h;cases h),NU (hR.mono ?_)⟩
    rintro e w' ⟨v,r,heap',next',g',rfl,hK,E,H,hv⟩
    have R1:Rel C nt g' {env:=st.env,heap:=heap',next:=next'} a w':=⟨R.env.mono E,H⟩
    have E2:b8 g' (za heap') (· < next') w' g' (za heap') (· < next'+1) w':=by
     have:=b8.add g' (za heap') (· < next') w' next'
     rwa [jW] at this
    have H2:RH C g' (za heap') (· < next'+1) w':=by
     have:=H.add next'
     rwa [jW] at this
    have R2:Rel C nt g' {env:=st.env,heap:=heap',next:=next'+1} a w':=⟨R1.env.mono E2,H2⟩
    have R3:=R2.put it.dst (fun d hd=>lK d (fe ▸ hd)) (hv.mono E2)
    rw [fe] at R3 hK
    refine hn _ _ _ _ hK R3 ?_
    cases hd:o.dst<;>exact b8.trans E E2
   ·exact he.elim
  ·rename_i sx
   split at he
   ·rename_i r aN gZ
    obtain ⟨v,w',gP,nc⟩:=FR hop g (za st.heap) (· < st.next) w st.next (zd st.env) a.eval r aN R.heap (by omega) (fun x _=>Zx R x) gZ
    obtain ⟨g',R',E'⟩:=K8 (dst:=it.dst) R (fun d hd=>lK d (fe ▸ hd)) nc
    rw [fe] at R' he E'
    refine ⟨fun f _=>QF _ f,?_⟩
    rw [Oper.semAt_eq _ _ _ (fun c hc=>by rw [hc] at hop;simp [kl] at hop)]
    rcases gP with gP | ⟨gP,rfl⟩
    ·rw [gP];exact hn _ _ _ _ he R' E'
    ·rw [gP];exact hn _ _ _ _ he R' E'
   ·exact he.elim
 ·exact he.elim
theorem N2 {ops:Array Oper} {K:Exit→St→Prop} {g0:Gh} {cM:St} {w0:World}:∀ (l:List Oper) (items:List aM),aL (xx C nt.n ops) l=some items →
  ∀ (st:St) (g:Gh) (a:Act) (w:World),AB C items (K .normal) st→Rel C nt g st a w→C.inv g0 cM w0→dI g0 cM w0 g st w→wpListIn (o4 C.ro) 0 C.P ops (Post C nt g0 cM w0 K) l a w:=by
 intro l
 induction l with
 | nil=>
  intro items hm st g a w he R hI E
  simp [aL] at hm
  subst hm
  exact ⟨st,g,he,R,E⟩
 | cons o l ih=>
  intro items hm st g a w he R hI E
  simp only [aL] at hm
  split at hm
  ·rename_i it hit
   split at hm
   ·rename_i its pH
    cases hm
    have:=N1 (Q:=Post C nt g0 cM w0 K) (next:=wpListIn (o4 C.ro) 0 C.P ops (Post C nt g0 cM w0 K) l) hit he R (hI.eN E) (fun aY g' a' w' hk R' E'=>ih its pH aY g' a' w' hk R' hI (E.trans E'))
    unfold wpListIn
    split
    ·rename_i hw;rw [if_pos hw] at this;exact this
    ·rename_i hw;rw [if_neg hw] at this;exact ⟨fun f _=>QF _ f,this⟩
   ·cases hm
  ·cases hm
def cD (C:bA) (nt:Fr) (ac:cB) (K:Exit→St→Prop) (st:St):Prop:=
 ∀ code,comp C nt.n code=some ac.erase→∀ g a w,Rel C nt g st a w→C.inv g st w→code.wpIn (o4 C.ro) 0 C.P (Post C nt g st w K) a w
def qG (ks:List Nat) (env:List (Nat×AV)):List (Nat×AV):=env.filter fun p=>ks.contains p.1
def St.keep (st:St):Option (List Nat)→St
 | none=>st
 | some ks=>{st with env:=qG ks st.env}
theorem Ji {ks:List Nat}:∀ {env:List (Nat×AV)} {t:Nat} {x:AV},za (qG ks env) t=some x→za env t=some x
 | [],t,x,h=>by simp [qG,za] at h
 | (k,v)::r,t,x,h=>by
  simp only [qG,uO] at h
  split at h
  ·simp only [za] at h ⊢
   split
   ·rename_i e;rw [if_pos e] at h;exact h
   ·rename_i e;rw [if_neg e] at h;exact Ji (ks:=ks) h
  ·rename_i hk
   have h':=Ji (ks:=ks) (env:=r) h
   simp only [za]
   split
   ·rename_i e
    subst e
    have hkn:ks.contains k=true:=by
     have:∀ {r:List (Nat×AV)},za (List.filter (fun p=>ks.contains p.1) r) k=some x→ks.contains k=true:=by
      intro r
      induction r with
      | nil=>intro h;simp [za] at h
      | cons p r ih=>
       intro h
       simp only [uO] at h
       split at h
       ·rename_i hp
        simp only [za] at h
        split at h
        ·rename_i e;rw [←e];exact hp
        ·exact ih h
       ·exact ih h
     exact this h
    exact absurd hkn hk
   ·exact h'
theorem Rel.keep {C:Ctx} (R:Rel C nt g st a w) (ks:Option (List Nat)):Rel C nt g (st.keep ks) a w:=by
 cases ks with
 | none=>exact R
 | some ks=>exact ⟨⟨R.env.size,R.env.defers,fun t x h=>R.env.slot t x (Ji h)⟩,R.heap⟩
theorem Post.mono {C:Ctx} {g0:Gh} {cM:St} {w0:World} {K K':Exit→St→Prop} (h:∀ e st,K e st→K' e st):∀ e a w,Post C nt g0 cM w0 K e a w→Post C nt g0 cM w0 K' e a w:=
 fun e a w ⟨aY,g',hk,R,E⟩=>⟨aY,g',h e aY hk,R,E⟩
theorem qP {ac:cB} {K K':Exit→St→Prop} (h:∀ e st,K e st→K' e st) (hw:cD C nt ac K st):cD C nt ac K' st:=
 fun code hc g a w R hI=>Code.wpIn_mono (Post.mono h) (hw code hc g a w R hI)
theorem Zy {K:Exit→St→Prop} (h:K .normal st):cD C nt .skip K st:=by
 intro code hc g a w R hI
 simp only [cB.erase] at hc
 cases code
 case skip=>exact wpIn_skip ⟨st,g,h,R,dI.refl _ _ _⟩
 case label l=>exact wpIn_label ⟨st,g,h,R,dI.refl _ _ _⟩
 all_goals (simp only [comp] at hc;(repeat' split at hc)<;>cases hc)
theorem N3 {code:Code} {x y:cB} (hc:comp C nt.n code=some (.seq x y)):∃ p q,code=.seq p q∧comp C nt.n p=some x∧comp C nt.n q=some y:=by
 cases code<;>simp only [comp] at hc<;>(repeat' split at hc)<;>cases hc
 rename_i h1 h2
 exact ⟨_,_,rfl,h1,h2⟩
theorem N4 {code:Code} {c:bf} {x y:cB} (hc:comp C nt.n code=some (.cond c x y)):∃ c' p q,code=.cond c' p q∧c=C.bk c'∧comp C nt.n p=some x∧comp C nt.n q=some y:=by
 cases code<;>simp only [comp] at hc<;>(repeat' split at hc)<;>cases hc
 rename_i h1 h2
 exact ⟨_,_,_,rfl,rfl,h1,h2⟩
theorem N5 {code:Code} {id:Nat} {x:cB} (hc:comp C nt.n code=some (.block id x)):∃ p,code=.block id p∧comp C nt.n p=some x:=by
 cases code<;>simp only [comp] at hc<;>(repeat' split at hc)<;>cases hc
 rename_i h1
 exact ⟨_,rfl,h1⟩
theorem N6 {code:Code} {x:cB} (hc:comp C nt.n code=some (.loop x)):∃ p,code=.loop p∧comp C nt.n p=some x:=by
 cases code<;>simp only [comp] at hc<;>(repeat' split at hc)<;>cases hc
 rename_i h1
 exact ⟨_,rfl,h1⟩
theorem N7 {code:Code} {x:cB} (hc:comp C nt.n code=some (.scope x)):∃ p,code=.scope p∧comp C nt.n p=some x:=by
 cases code<;>simp only [comp] at hc<;>(repeat' split at hc)<;>cases hc
 rename_i h1
 exact ⟨_,rfl,h1⟩
theorem WT {code:Code} {d:Bool} {ord:List Nat} {items:List aM} (hc:comp C nt.n code=some (.region d ord items none)):∃ id ops,code=.region id ops d∧aL (xx C nt.n ops) ops.toList=some items ∧
  (d=true→C.P.follows .mixedOrders=true∧ord=(Region.before ops).toList∧vR ops ord=true):=by
 cases code
 case region id ops draw=>
  simp only [comp] at hc
  split at hc
  ·rename_i its pH
   cases draw with
   | true=>
    simp only [if_true] at hc
    split at hc
    ·rename_i bM
     simp only [uj] at bM
     simp only [Option.some.injEq,cB.region.injEq,and_true] at hc
     obtain ⟨rfl,rfl,rfl⟩:=hc
     exact ⟨id,ops,rfl,pH,fun _=>⟨bM.1,rfl,bM.2⟩⟩
    ·cases hc
   | false=>
    simp only [ul,if_false,Option.some.injEq,cB.region.injEq,and_true] at hc
    obtain ⟨rfl,rfl,rfl⟩:=hc
    exact ⟨id,ops,rfl,pH,fun h=>by cases h⟩
  ·cases hc
 all_goals (simp only [comp] at hc;(repeat' split at hc)<;>cases hc)
def vT (next:St→Prop) (K:Exit→St→Prop):Exit→St→Prop
 | .normal,st=>next st
 | e,st=>K e st
theorem qk {x y:cB} {K:Exit→St→Prop} (h:cD C nt x (vT (cD C nt y K) K) st):cD C nt (.seq x y) K st:=by
 intro code hc g a w R hI
 obtain ⟨p,q,rfl,h1,h2⟩:=N3 hc
 refine wpIn_seq (Code.wpIn_mono ?_ (h p h1 g a w R hI))
 rintro e a' w' ⟨aY,g',hk,R',E⟩
 cases e with
 | normal=>
  refine Code.wpIn_mono ?_ (hk q h2 g' a' w' R' (hI.eN E))
  rintro e a'' w'' ⟨C6,g'',hk',N8,E'⟩
  exact ⟨C6,g'',hk',N8,E.trans E'⟩
 | _=>exact ⟨aY,g',hk,R',E⟩
theorem xy {c:bf} {x y:cB} {K:Exit→St→Prop} (b:Bool) (hb:zd st.env c=.ak (.bool b)) (ht:b=true→cD C nt x K st) (hf:b=false→cD C nt y K st) :
  cD C nt (.cond c x y) K st:=by
 intro code hc g a w R hI
 obtain ⟨c',p,q,rfl,rfl,h1,h2⟩:=N4 hc
 have hv:=Zx R c'
 rw [hb] at hv
 refine wpIn_cond_split (vr hv) (fun h=>ht h p h1 g a w R hI) (fun h=>hf h q h2 g a w R hI)
def xR (id:Nat) (K:Exit→St→Prop):Exit→St→Prop
 | .exit id',st=>if id'=id then K .normal st else K (.exit id') st
 | e,st=>K e st
theorem vt {id:Nat} {x:cB} {K:Exit→St→Prop} (h:cD C nt x (xR id K) st):cD C nt (.block id x) K st:=by
 intro code hc g a w R hI
 obtain ⟨p,rfl,h1⟩:=N5 hc
 refine wpIn_block (Code.wpIn_mono ?_ (h p h1 g a w R hI))
 rintro e a' w' ⟨aY,g',hk,R',E⟩
 cases e with
 | exit id'=>
  simp only [Exit.inBlock,xR] at hk ⊢
  split
  ·rename_i e;rw [if_pos e] at hk;exact ⟨aY,g',hk,R',E⟩
  ·rename_i e;rw [if_neg e] at hk;exact ⟨aY,g',hk,R',E⟩
 | _=>exact ⟨aY,g',hk,R',E⟩
def QG (K:Exit→St→Prop):Exit→St→Prop
 | .goto _,_=>False
 | e,st=>K e st
theorem K9 (hro:C.ro=none) {x:cB} {K:Exit→St→Prop} (h:cD C nt x (QG K) st):cD C nt (.scope x) K st:=by
 intro code hc g a w R hI
 obtain ⟨p,rfl,h1⟩:=N7 hc
 have h2:=h p h1 g a w R hI
 rw [hro] at h2 ⊢
 refine wpIn_wide.2 (wp_scope_straight (Code.wp_mono ?_ (wpIn_wide.1 h2)))
 rintro e a' w' ⟨aY,g',hk,R',E⟩
 cases e with
 | goto l=>exact hk.elim
 | _=>exact ⟨aY,g',hk,R',E⟩
theorem Jj {id:Nat} {K:Exit→St→Prop} (h:K (.exit id) st):cD C nt (.exit id) K st:=by
 intro code hc g a w R hI
 simp only [cB.erase] at hc
 cases code<;>simp only [comp] at hc<;>(repeat' split at hc)<;>cases hc
 exact wpIn_exit ⟨st,g,h,R,dI.refl _ _ _⟩
theorem Wg {K:Exit→St→Prop} (h:K .ret st):cD C nt .ret K st:=by
 intro code hc g a w R hI
 simp only [cB.erase] at hc
 cases code<;>simp only [comp] at hc<;>(repeat' split at hc)<;>cases hc
 exact wpIn_ret ⟨st,g,h,R,dI.refl _ _ _⟩
theorem VR {ord:List Nat} {items:List aM} {ks:Option (List Nat)} {K:Exit→St→Prop} (h:AB C items (fun aY=>K .normal (aY.keep ks)) st):cD C nt (.region false ord items ks) K st:=by
 intro code hc g a w R hI
 obtain ⟨id,ops,rfl,hm,_⟩:=WT hc
 have:=N2 (C:=C) (nt:=nt) (ops:=ops) (K:=fun e aY=>K e (aY.keep ks)) (g0:=g) (cM:=st) (w0:=w) ops.toList items hm st g a w h R hI (dI.refl _ _ _)
 refine Code.wpIn_mono ?_ (wpIn_region_list this)
 rintro e a' w' ⟨aY,g',hk,R',E⟩
 exact ⟨aY.keep ks,g',hk,R'.keep ks,by cases ks<;>exact E⟩
def bR (st aY:St):Prop:=∀ (C:Ctx) (nt:Fr) (g:Gh) (a:Act) (w:World),Rel C nt g st a w →
 ∃ g',Rel C nt g' aY a w∧∀ g0 cM w0,cM.next≤aY.next→dI g0 cM w0 g st w→dI g0 cM w0 g' aY w
theorem bR.refl (st:St):bR st st:=fun _ _ g _ _ R=>⟨g,R,fun _ _ _ _ E=>E⟩
theorem bA.inv.cC {g1:Gh} {nV:St} (h:C.inv g st w) (hE:∀ g0 cM w0,cM.next≤nV.next→dI g0 cM w0 g st w→dI g0 cM w0 g1 nV w) (hn:st.next≤nV.next):C.inv g1 nV w:=by
 unfold bA.inv at *
 split
 ·trivial
 ·rename_i g0 cM w0 e
  rw [e] at h
  refine hE g0 cM w0 ?_ h
  rcases ur cM.next with h0 | h0
  ·omega
  ·have h1:cM.next - 1 < st.next:=b8.next h (cM.next - 1) (by show cM.next - 1 < cM.next;omega)
   omega
theorem yr {ac:cB} {K:Exit→St→Prop} {nV:St} (hw:bR st nV) (hn:st.next≤nV.next) (h:cD C nt ac K nV):cD C nt ac K st:=by
 intro code hc g a w R hI
 obtain ⟨g1,R1,hE⟩:=hw C nt g a w R
 have E1:=hE g st w hn (dI.refl _ _ _)
 refine Code.wpIn_mono ?_ (h code hc g1 a w R1 (hI.cC hE hn))
 rintro e a' w' ⟨aY,g',hk,R',E⟩
 exact ⟨aY,g',hk,R',E1.trans E⟩
theorem Jk {ι:Type} {x:cB} {K:Exit→St→Prop} (S:ι→St) (μ:ι→Nat) (i0:ι) (hn:∀ i,(S i0).next≤(S i).next) (h0:bR st (S i0)) (hn0:st.next≤(S i0).next)
  (round:∀ i,cD C nt x (vT (fun aY=>∃ j,μ j < μ i∧bR aY (S j)) K) (S i)):cD C nt (.loop x) K st:=by
 refine yr h0 hn0 ?_
 intro code hc g a w R hI
 obtain ⟨p,rfl,h1⟩:=N6 hc
 refine VP (fun n a' w'=>∃ i g',n=μ i∧Rel C nt g' (S i) a' w'∧dI g (S i0) w g' (S i) w') (μ i0) ⟨i0,g,rfl,R,dI.refl _ _ _⟩ ?_
 rintro n a1 w1 ⟨i,g1,rfl,R1,E1⟩
 refine Code.wpIn_mono ?_ (round i p h1 g1 a1 w1 R1 (hI.eN E1))
 rintro e a' w' ⟨aY,g',hk,R',E'⟩
 cases e with
 | normal=>
  obtain ⟨j,hlt,AD⟩:=hk
  obtain ⟨g2,R2,C7⟩:=AD C nt g' a' w' R'
  exact ⟨μ j,hlt,j,g2,rfl,R2,C7 g (S i0) w (hn j) (E1.trans E')⟩
 | _=>exact ⟨aY,g',hk,R',E1.trans E'⟩
end
end
section
section
variable {C:Ctx} {nt:Fr} {g g':Gh} {h h':Nat→Option aF} {N N':Nat→Prop} {st aY:St} {a:Act} {w w':World}
theorem Y7 (R:RH C g h N w) (Z':Nat→Nat) (hZ:∀ b,g.Z b≤Z' b) (hO:∀ i b sz af,g.ρ i=some b→h i=some (.af sz af)→af.length*sz≤Z' b) (hM:∀ i b es,g.ρ i=some b→h i=some (.map es)→0 < Z' b) :
  ∀ (d:Nat) (x:AV) (v:Value) (y:IV),zD h d x=some y→RV C g h N w x v→RI Z' w y v:=by
 have up:∀ {y:IV} {v:Value},RI g.Z w y v→RI Z' w y v:=fun hr=>hr.mono hZ (iD.refl _ _)
 intro d
 induction d with
 | zero=>intro x v y hx;simp [zD] at hx
 | succ d ih=>
  intro x v y hx hv
  cases hv with
  | ak z _ hr=>simp [zD] at hx;subst hx;exact up hr
  | nil=>simp [zD] at hx;subst hx;exact .nil
  | cx a cap=>simp [zD] at hx;subst hx;exact yo
  | aS i af _ hr _ _=>simp [zD] at hx;subst hx;exact up hr
  | agg cs vs hl h1 hr=>
   simp only [zD,ud] at hx
   obtain ⟨out,hout,rfl⟩:=hx
   obtain ⟨h2,h3⟩:=ql hout
   refine .agg out vs (by rw [h2];exact hl) h1 fun i c u hc hu => ?_
   have hlt:i < cs.length:=by rw [←h2];exact (ua.1 hc).1
   obtain ⟨c',h4,h5⟩:=h3 i cs[i] (by simp)
   rw [hc] at h4
   cases h4
   exact ih _ _ _ h5 (hr i cs[i] u (by simp) hu)
  | tuple cs vs hl hr=>
   simp only [zD,ud] at hx
   obtain ⟨out,hout,rfl⟩:=hx
   obtain ⟨h2,h3⟩:=ql hout
   refine .tuple out vs (by rw [h2];exact hl) fun i c u hc hu => ?_
   have hlt:i < cs.length:=by rw [←h2];exact (ua.1 hc).1
   obtain ⟨c',h4,h5⟩:=h3 i cs[i] (by simp)
   rw [hc] at h4
   cases h4
   exact ih _ _ _ h5 (hr i cs[i] u (by simp) hu)
  | Zai i off len _ hni hone hp=>
   simp only [zD] at hx
   split at hx
   ·rename_i sz af cO
    split at hx
    ·rename_i hle
     rw [ud] at hx
     obtain ⟨out,hout,rfl⟩:=hx
     obtain ⟨h2,h3⟩:=ql hout
     have lI:((af.drop off).take len).length=len:=by simp;omega
     have oa:out.length=len:=by rw [h2,lI]
     obtain ⟨_,h5⟩:=hp sz af cO
     rcases h5 with ⟨hn,hr,hval⟩ | ⟨b,cap,c,e,hb,hval,fG,hw,hcap⟩
     ·subst hr
      have:len=0:=by simp at hle;omega
      have ho:out=[]:=List.eq_nil_of_length_eq_zero (by omega)
      subst ho
      rw [hval]
      exact .nil
     ·obtain ⟨hz,c',e',gX,hlen,hcells⟩:=R.obj i b _ hb cO
      have key:∀ (i':Nat) (row:List IV) (j:Nat) (x:IV),out[i']?=some row→row[j]?=some x→∃ u,c'[(off+i')*sz+j]?=some u∧u.oneCell'=true∧RI Z' w x u∧i' < len∧row.length=sz∧j < sz:=fun i' row j x hi hj=>by
       have hi':i' < len:=by rw [←oa];exact (ua.1 hi).1
       have gC:((af.drop off).take len)[i']?=some (af[off+i']'(by omega)):=by
        rw [uA hi',uL];simp
       obtain ⟨row',cz,cy⟩:=h3 i' _ gC
       rw [hi] at cz
       cases cz
       obtain ⟨pE,n9⟩:=ql cy
       have hj':j < (af[off+i']'(by omega)).length:=by rw [←pE];exact (ua.1 hj).1
       obtain ⟨x',hx1,hx2⟩:=n9 j ((af[off+i']'(by omega))[j]) (ui hj')
       rw [hj] at hx1
       cases hx1
       have hrow:af[off+i']?=some (af[off+i']'(by omega)):=by simp
       obtain ⟨cv,h6,h7,h8⟩:=hcells (off+i') _ j _ hrow (ui hj')
       have hsz:=hlen (off+i') _ hrow
       exact ⟨cv,h6,h7,ih _ _ _ hx2 h8,hi',by rw [pE];exact hsz,by rw [←hsz];exact hj'⟩
      have pI:∀ (i':Nat) (row:List IV),out[i']?=some row→row.length=sz:=fun i' row hi=>by
       have hi':i' < len:=by rw [←oa];exact (ua.1 hi).1
       have gC:((af.drop off).take len)[i']?=some (af[off+i']'(by omega)):=by
        rw [uA hi',uL];simp
       obtain ⟨row',cz,cy⟩:=h3 i' _ gC
       rw [hi] at cz
       cases cz
       rw [(ql cy).1]
       exact hlen (off+i') _ (by simp)
      rw [hval,←oa]
      refine .slice out b (off*sz) cap sz (fun i' j=>c'.getD ((off+i')*sz+j) undef) (by omega) pI (fun i' row j x hi hj => ?_) (fun i' row j x hi hj => ?_) (fun i' row j x hi hj => ?_)
      ·obtain ⟨u,h6,h7,h8,h9,h10,h11⟩:=key i' row j x hi hj
       have nD:=hO i b sz af hb cO
       have:(off+i'+1)*sz≤af.length*sz:=Nat.mul_le_mul_right _ (by omega)
       simp only [uV] at this
       omega
      ·obtain ⟨u,h6,h7,h8,h9,h10,h11⟩:=key i' row j x hi hj
       have hu:c'.getD ((off+i')*sz+j) undef=u:=by
        have hlt:(off+i')*sz+j < c'.size:=(ub.1 h6).1
        simp [hlt] at h6 ⊢
        exact h6
       rw [hu,qK gX]
       refine ⟨?_,h7⟩
       rw [←h6]
       congr 1
       rw [uV]
      ·obtain ⟨u,h6,h7,h8,h9,h10,h11⟩:=key i' row j x hi hj
       have hu:c'.getD ((off+i')*sz+j) undef=u:=by
        have hlt:(off+i')*sz+j < c'.size:=(ub.1 h6).1
        simp [hlt] at h6 ⊢
        exact h6
       rw [hu]
       exact h8
    ·cases hx
   ·cases hx
  | map i _ hni hone hp=>
   simp only [zD] at hx
   split at hx
   ·rename_i es cO
    rw [ud] at hx
    obtain ⟨out,hout,rfl⟩:=hx
    obtain ⟨h2,h3⟩:=ql hout
    obtain ⟨b,hb,hval⟩:=hp es cO
    obtain ⟨hz,cG,clock,hw,hl,hr⟩:=R.obj i b _ hb cO
    have key:∀ (j:Nat) (k x:IV),out[j]?=some (k,x)→∃ e,cG[j]?=some e∧IV.key k=some e.key∧RI Z' w x e.val:=fun j k x hj=>by
     have hlt:j < es.length:=by rw [←h2];exact (ua.1 hj).1
     obtain ⟨y,h4,h5⟩:=h3 j es[j] (ui hlt)
     rw [hj] at h4
     cases h4
     rw [ud] at h5
     obtain ⟨z,h6,h7⟩:=h5
     cases h7
     obtain ⟨e,e1,e2,e3⟩:=hr j es[j].1 es[j].2 (by rw [ui hlt])
     exact ⟨e,e1,e2,ih _ _ _ h6 e3⟩
    rw [hval]
    have gZ:∀ (j:Nat) (e:MapEntry),cG[j]?=some e→(cG[j]?).getD {key:=undef,val:=undef,born:=0}=e:=fun j e h=>by rw [h];rfl
    refine .eH out b cG clock (fun j=>(cG[j]?).getD {key:=undef,val:=undef,born:=0}) (hM i b es hb cO) hw (by rw [hl,h2]) (fun j k x hj => ?_) (fun j k x hj => ?_)
    ·obtain ⟨e,e1,e2,e3⟩:=key j k x hj
     rw [gZ j e e1]
     exact ⟨e1,e2⟩
    ·obtain ⟨e,e1,e2,e3⟩:=key j k x hj
     rw [gZ j e e1]
     exact e3
   ·cases hx
  | _=>simp [zD] at hx
theorem FW:∀ (d:Nat) (x:AV) (v:Value) (y:IV),xf d x=true→zD h d x=some y→RV C g h N w x v→RI g.Z w y v:=by
 intro d
 induction d with
 | zero=>intro x v y _ hx;simp [zD] at hx
 | succ d ih=>
  intro x v y hm hx hv
  cases hv with
  | ak z _ hr=>simp [zD] at hx;subst hx;exact hr
  | nil=>simp [zD] at hx;subst hx;exact .nil
  | cx a cap=>simp [zD] at hx;subst hx;exact yo
  | aS i af _ hr _ _=>simp [zD] at hx;subst hx;exact hr
  | agg cs vs hl h1 hr=>
   simp only [zD,ud] at hx
   simp only [xf] at hm
   obtain ⟨out,hout,rfl⟩:=hx
   obtain ⟨h2,h3⟩:=ql hout
   refine .agg out vs (by rw [h2];exact hl) h1 fun i c u hc hu => ?_
   have hlt:i < cs.length:=by rw [←h2];exact (ua.1 hc).1
   obtain ⟨c',h4,h5⟩:=h3 i cs[i] (by simp)
   rw [hc] at h4
   cases h4
   exact ih _ _ _ (ue.1 hm _ (uq hlt)) h5 (hr i cs[i] u (by simp) hu)
  | tuple cs vs hl hr=>
   simp only [zD,ud] at hx
   simp only [xf] at hm
   obtain ⟨out,hout,rfl⟩:=hx
   obtain ⟨h2,h3⟩:=ql hout
   refine .tuple out vs (by rw [h2];exact hl) fun i c u hc hu => ?_
   have hlt:i < cs.length:=by rw [←h2];exact (ua.1 hc).1
   obtain ⟨c',h4,h5⟩:=h3 i cs[i] (by simp)
   rw [hc] at h4
   cases h4
   exact ih _ _ _ (ue.1 hm _ (uq hlt)) h5 (hr i cs[i] u (by simp) hu)
  | Zai i off len _ hni hone hp=>simp [xf] at hm
  | map=>simp [xf] at hm
  | _=>simp [zD] at hx
theorem wa (R:RH C g h N w) {Z':Nat→Nat} (hB:Below w.heap.size w w') (hZ:∀ b,b < w.heap.size→Z' b=g.Z b):b8 g h N w ⟨g.ρ,Z'⟩ h N w' where
 os:=hB.os
 tape:=hB.tape
 output:=hB.output
 size:=hB.size
 old:=fun b hb _=>⟨hB.block b hb,hZ b hb⟩
 own:=fun b hb=>.inl hb
 cg:=fun b=>by
  rcases uv b w.heap.size with hb | hb
  ·show g.Z b≤Z' b;rw [hZ b hb];exact uk _
  ·rcases ur (g.Z b) with h0 | h0
   ·omega
   ·have:=R.ea b h0;omega
 cell:=iD.heap fun b hz=>hB.block b (R.ea b hz)
 shape:=fun b c e hb=>⟨c,(hB.block b (qf hb)).trans hb,rfl⟩
 next:=fun _ h=>h
 eo:=fun i b hb _ _ _ _=>.inl hb
 cJ:=fun i hb _ _ _ _=>.inl hb
 af:=fun i _ sz af h=>⟨af,h,rfl⟩
 cS:=fun i _ sz len h=>⟨len,h,uk _⟩
 maps:=fun i _ es h=>⟨es,h⟩
 fE:=fun i _ ll RR s pe h=>⟨s,pe,h⟩
theorem Zz (R:RH C g h N w) {Z':Nat→Nat} (hB:Below w.heap.size w w') (hZ:∀ b,b < w.heap.size→Z' b=g.Z b) (hlt:∀ b,0 < Z' b→b < w'.heap.size):RH C ⟨g.ρ,Z'⟩ h N w' where
 inj:=R.inj
 lt:=fun i b hb=>⟨ug (R.lt i b hb).1 hB.size,(R.lt i b hb).2⟩
 key:=R.key
 obj:=fun i b o hb ho=>(R.obj i b o hb ho).keep (wa R hB hZ) (hB.block b (R.lt i b hb).1) (hZ b (R.lt i b hb).1)
 cR:=R.cR
 ea:=hlt
 fix:=R.fix.eN (wa R hB hZ)
def xL:IV→Bool
 | .slice _ | .iface _ _ | .cQ | .eH _=>false
 | .agg cs | .tuple cs=>cs.all fun c=>match c with | .bool _ | .int _ _ | .str _=>true | _=>false
 | _=>true
theorem FX {Z Z':Nat→Nat} {x:IV} {v:Value} (hf:xL x=true) (hr:RI Z w x v):RI Z' w' x v:=by
 have one:∀ {c:IV} {u:Value},(match c with | .bool _ | .int _ _ | .str _=>true | _=>false)=true→RI Z w c u→RI Z' w' c u:=fun {c u} hc hr=>by
  cases hr<;>first | exact .bool _ | exact .int _ _ | exact .str _ | (simp at hc)
 cases hr with
 | bool b=>exact .bool b
 | int k n=>exact .int k n
 | str s=>exact .str s
 | nil=>simp [xL] at hf
 | empty=>simp [xL] at hf
 | slice=>simp [xL] at hf
 | iface=>simp [xL] at hf
 | cQ=>simp [xL] at hf
 | eH=>simp [xL] at hf
 | agg cs vs hl h1 hr=>exact .agg cs vs hl h1 fun i c u hc hu=>one (ue.1 hf c (uc hc)) (hr i c u hc hu)
 | tuple cs vs hl hr=>exact .tuple cs vs hl fun i c u hc hu=>one (ue.1 hf c (uc hc)) (hr i c u hc hu)
theorem bJ.pure {f:Nat} {args:List AV} {heap:List (Nat×aF)} {next d:Nat} {K:AV→List (Nat×aF)→Nat→Prop} {dA:List IV} {r:IV} (hp:aJ C f dA r)
  (hm:(args.all (xf d))=true) (hx:aL (zD (za heap) d) args=some dA) (hK:K (.ak r) heap next):bJ C f args heap next K:=by
 refine ⟨hp.1,fun g w vs R hv => ?_⟩
 obtain ⟨h1,h2⟩:=ql hx
 refine (hp.2 g.Z w vs R.ea ⟨R.fix.1,R.fix.2.1⟩ ⟨by rw [h1];exact hv.1,fun j c u hc hu => ?_⟩).mono ?_
 ·have hlt:j < args.length:=by rw [←h1];exact (ua.1 hc).1
  obtain ⟨c',h3,h4⟩:=h2 j args[j] (by simp)
  rw [hc] at h3
  cases h3
  exact FW d _ _ _ (ue.1 hm _ (uq hlt)) h4 (hv.2 j args[j] u (by simp) hu)
 ·rintro e w' ⟨v,Z',rfl,hr,hZ,hlt,hB⟩
  exact ⟨v,.ak r,heap,next,⟨g.ρ,Z'⟩,rfl,hK,wa R hB hZ,Zz R hB hZ hlt,.ak _ _ hr⟩
theorem bJ.ou {f:Nat} {args:List AV} {heap:List (Nat×aF)} {next d:Nat} {K:AV→List (Nat×aF)→Nat→Prop} {dA:List IV} {r:IV} (hp:aJ C f dA r)
  (hx:aL (zD (za heap) d) args=some dA) (hf:xL r=true) (hK:K (.ak r) heap next):bJ C f args heap next K:=by
 refine ⟨hp.1,fun g w vs R hv => ?_⟩
 obtain ⟨h1,h2⟩:=ql hx
 let Z1:Nat→Nat:=fun b=>match w.heap[b]? with
  | some (.cells c _ _)=>max (g.Z b) c.size
  | some (.map _ _)=>max (g.Z b) 1
  | _=>g.Z b
 have iq:∀ b,g.Z b≤Z1 b:=fun b=>by
  show g.Z b≤(match w.heap[b]? with | some (.cells c _ _)=>max (g.Z b) c.size | some (.map _ _)=>max (g.Z b) 1 | _=>g.Z b)
  split
  ·exact uy _ _
  ·exact uy _ _
  ·exact uk _
 have sy:∀ b,0 < Z1 b→b < w.heap.size:=fun b hb=>by
  rcases uv b w.heap.size with h | h
  ·exact h
  ·have hn:w.heap[b]?=none:=um h
   have:Z1 b=g.Z b:=by show (match w.heap[b]? with | some (.cells c _ _)=>max (g.Z b) c.size | some (.map _ _)=>max (g.Z b) 1 | _=>g.Z b)=g.Z b;rw [hn]
   exact R.ea b (by omega)
 have hO:∀ i b sz af,g.ρ i=some b→za heap i=some (.af sz af)→af.length*sz≤Z1 b:=fun i b sz af hb ho=>by
  obtain ⟨hz,c,e,hc,hlen,hcells⟩:=R.obj i b _ hb ho
  have hZ:Z1 b=max (g.Z b) c.size:=by show (match w.heap[b]? with | some (.cells c _ _)=>max (g.Z b) c.size | some (.map _ _)=>max (g.Z b) 1 | _=>g.Z b)=_;rw [hc]
  rw [hZ]
  refine uT ?_ (ux _ _)
  rcases ur (af.length*sz) with h0 | h0
  ·omega
  ·have hs:0 < sz:=ut fun e=>by subst e;simp at h0
   have hr:0 < af.length:=ut fun e=>by rw [e] at h0;simp at h0
   have hrow:af[af.length - 1]?=some (af[af.length - 1]'(by omega)):=by simp
   have hl:=hlen _ _ hrow
   obtain ⟨cv,h3,_⟩:=hcells (af.length - 1) _ (sz - 1) ((af[af.length - 1]'(by omega))[sz - 1]'(by omega)) hrow (by simp)
   have hlt:=(ub.1 h3).1
   have:(af.length - 1)*sz+sz=af.length*sz:=by
    rw [←uU];congr 1;omega
   omega
 have hM:∀ i b es,g.ρ i=some b→za heap i=some (.map es)→0 < Z1 b:=fun i b es hb ho=>by
  obtain ⟨hz,cG,clock,hw,_⟩:=R.obj i b _ hb ho
  have hZ:Z1 b=max (g.Z b) 1:=by show (match w.heap[b]? with | some (.cells c _ _)=>max (g.Z b) c.size | some (.map _ _)=>max (g.Z b) 1 | _=>g.Z b)=_;rw [hw]
  rw [hZ]
  exact ug uP (ux _ _)
 refine (hp.2 Z1 w vs sy ⟨R.fix.1,R.fix.2.1⟩ ⟨by rw [h1];exact hv.1,fun j c u hc hu => ?_⟩).mono ?_
 ·have hlt:j < args.length:=by rw [←h1];exact (ua.1 hc).1
  obtain ⟨c',h3,h4⟩:=h2 j args[j] (by simp)
  rw [hc] at h3
  cases h3
  exact Y7 R Z1 iq hO hM d _ _ _ h4 (hv.2 j args[j] u (by simp) hu)
 ·rintro e w' ⟨v,Z',rfl,hr,hZ,hlt,hB⟩
  refine ⟨v,.ak r,heap,next,g,rfl,hK,wa (Z':=g.Z) R hB (fun _ _=>rfl),Zz (Z':=g.Z) R hB (fun _ _=>rfl) (fun b hb=>ug (R.ea b hb) hB.size),.ak _ _ (FX hf hr)⟩
theorem bJ.mono {f:Nat} {args:List AV} {heap:List (Nat×aF)} {next:Nat} {K K':AV→List (Nat×aF)→Nat→Prop} (hk:∀ r h n,K r h n→K' r h n) (hc:bJ C f args heap next K):bJ C f args heap next K':=
 ⟨hc.1,fun g w vs R hv=>(hc.2 g w vs R hv).mono fun e w' ⟨v,r,heap',next',g',h1,h2,h3⟩=>⟨v,r,heap',next',g',h1,hk _ _ _ h2,h3⟩⟩
end
end
section
def jn:Nat→List AV→List (Nat×AV)
 | _,[]=>[]
 | i,x::xs=>(i,x)::jn (i+1) xs
def wM (st:St):dD→Option AV
 | .tmp t=>za st.env t
 | .cell t ag n=>match ai (.load ag n (.t t)) (zd st.env) (za st.heap) 0 with
  | some (r,_)=>some r
  | none=>none
def jd (rs:List dD) (st:St):Option AV:=match rs with
 | [r]=>wM st r
 | rs=>match aL (wM st) rs with
  | some xs=>some (.tuple xs)
  | none=>none
section
variable {C:Ctx} {nt:Fr} {g g':Gh} {h h':Nat→Option aF} {N N':Nat→Prop} {st aY:St} {a:Act} {w w':World}
theorem VT:∀ (args:List AV) (i t:Nat) (x:AV),za (jn i args) t=some x→i≤t∧args[t - i]?=some x
 | [],i,t,x,h=>by simp [jn,za] at h
 | y::ys,i,t,x,h=>by
  simp only [jn,za] at h
  split at h
  ·rename_i e;subst e;cases h;simp
  ·obtain ⟨h1,h2⟩:=VT ys (i+1) t x h
   refine ⟨by omega,?_⟩
   rw [show t - i=(t - (i+1))+1 by omega]
   simpa using h2
theorem N9 (R:Rel C nt g st a w) {rv:ResultVar} {ar:dD} (hc:yp C rv=some ar) {x:AV} (hx:wM st ar=some x) :
  ∃ v,((match rv with | .tmp t=>pure (a.tmps.getD t undef) | .cell ad t=>do loadVar t (←asAddr (a.tmps.getD ad undef)):Sem Value)).run C.P w=.ok v w∧RV C g (za st.heap) (· < st.next) w x v:=by
 cases rv with
 | tmp t=>
  simp only [yp,Option.some.injEq] at hc
  subst hc
  exact ⟨_,rfl,R.env.slot t x hx⟩
 | cell ad t=>
  simp only [yp] at hc
  split at hc
  ·rename_i ag n h1 h2
   cases hc
   simp only [wM] at hx
   split at hx
   ·rename_i r aN he
    cases hx
    have hv:RV C g (za st.heap) (· < st.next) w (zd st.env (.t ad)) (a.tmps.getD ad undef):=Zx R (.tmp ad)
    obtain ⟨v,h3,_,h4⟩:=KR h1 h2 R.heap hv he
    refine ⟨v,?_,h4⟩
    have AE:∃ p,a.tmps.getD ad undef=.pointer (some p):=by
     generalize a.tmps.getD ad undef=q at h3
     cases q with
     | pointer p=>
      cases p with
      | none=>simp [Instr.loadAt,Instr.sureAddr] at h3
      | some p=>exact ⟨p,rfl⟩
     | _=>simp [Instr.loadAt,Instr.sureAddr] at h3
    obtain ⟨p,hp⟩:=AE
    rw [hp] at h3
    show ((do loadVar t (←asAddr (a.tmps.getD ad undef)):Sem Value)).run C.P w=.ok v w
    rw [hp]
    simpa [Instr.loadAt,Instr.sureAddr,asAddr] using h3
   ·cases hx
  ·cases hc
theorem Oa (R:Rel C nt g st a w) {fn:Func} {rs:List dD} (hc:aL (yp C) fn.results.toList=some rs) {x:AV} (hx:jd rs st=some x) :
  ∃ v,(results fn a.tmps).run C.P w=.ok v w∧RV C g (za st.heap) (· < st.next) w x v:=by
 obtain ⟨hl,hg⟩:=ql hc
 have many:∀ (l:List ResultVar) (rs:List dD) (xs:List AV),aL (yp C) l=some rs→aL (wM st) rs=some xs →
   ∃ vs:List Value,(l.mapM (fun rv=>(match rv with | .tmp t=>pure (a.tmps.getD t undef) | .cell ad t=>do loadVar t (←asAddr (a.tmps.getD ad undef)):Sem Value))).run C.P w=.ok vs w∧vs.length=xs.length ∧
    ∀ (j:Nat) (y:AV) (u:Value),xs[j]?=some y→vs[j]?=some u→RV C g (za st.heap) (· < st.next) w y u:=by
  intro l
  induction l with
  | nil=>
   intro rs xs h1 h2
   simp [aL] at h1;subst h1
   simp [aL] at h2;subst h2
   exact ⟨[],by simp,rfl,fun j y u hj=>by simp at hj⟩
  | cons rv l ih=>
   intro rs xs h1 h2
   simp only [aL] at h1
   split at h1
   ·rename_i ar har
    split at h1
    ·rename_i rs' nE
     cases h1
     simp only [aL] at h2
     split at h2
     ·rename_i y hy
      split at h2
      ·rename_i ys hys
       cases h2
       obtain ⟨v,h3,h4⟩:=N9 R har hy
       obtain ⟨vs,h5,h6,h7⟩:=ih rs' ys nE hys
       refine ⟨v::vs,?_,by simp [h6],fun j y' u hj hu => ?_⟩
       ·simp only [List.mapM_cons,Sem.run_bind,h3,Result.andThen_ok,h5,Sem.run_pure]
       ·cases j with
        | zero=>simp at hj hu;subst hj;subst hu;exact h4
        | succ j=>exact h7 j y' u (by simpa using hj) (by simpa using hu)
      ·cases h2
     ·cases h2
    ·cases h1
   ·cases h1
 have hrun:∀ vs:List Value,(fn.results.toList.mapM (fun rv=>(match rv with | .tmp t=>pure (a.tmps.getD t undef) | .cell ad t=>do loadVar t (←asAddr (a.tmps.getD ad undef)):Sem Value))).run C.P w=.ok vs w →
   (results fn a.tmps).run C.P w=.ok (if h:vs.toArray.size=1 then vs.toArray[0] else .tuple vs.toArray) w:=fun vs hvs=>by
  have key:∀ (F:ResultVar→Sem Value),(∀ rv,F rv=(match rv with | .tmp t=>pure (a.tmps.getD t undef) | .cell ad t=>do loadVar t (←asAddr (a.tmps.getD ad undef)):Sem Value))→(fn.results.toList.mapM F).run C.P w=.ok vs w:=fun F hF=>by
   rw [funext hF];exact hvs
  unfold results
  rw [Array.mapM_eq_mapM_toList]
  simp only [Sem.run_bind,Sem.run_map]
  rw [key _ (fun rv=>by cases rv<;>rfl)]
  rfl
 unfold jd at hx
 split at hx
 ·rename_i ar
  have h1:aL (wM st) [ar]=some [x]:=by simp [aL,hx]
  obtain ⟨vs,h2,h3,h4⟩:=many fn.results.toList [ar] [x] hc h1
  obtain ⟨v,rfl⟩:=uD.1 h3
  exact ⟨v,by rw [hrun _ h2];rfl,h4 0 x v rfl rfl⟩
 ·rename_i hne
  split at hx
  ·rename_i xs hxs
   cases hx
   obtain ⟨vs,h2,h3,h4⟩:=many fn.results.toList rs xs hc hxs
   have hxl:=(ql hxs).1
   have hn1:¬ vs.toArray.size=1:=by
    intro eV
    have:rs.length=1:=by rw [←hxl,←h3];simpa using eV
    obtain ⟨ar,rfl⟩:=uD.1 this
    exact hne ar rfl
   exact ⟨.tuple vs.toArray,by rw [hrun _ h2,dif_neg hn1],.tuple xs vs h3.symm h4⟩
  ·cases hx
theorem ZA {f : Nat} {F : dz} (hF : qr C f = some F.erase) : ∃ fn code, C.P.funcs[C.ew f]? = some fn ∧ fn.body = some code ∧ (fn.name == "runtime.NumGoroutine") = false ∧ fn.ntmps = F.nt ∧
  comp C F.nt code=some F.body.erase∧aL (yp C) fn.results.toList=some F.results:=by
 unfold qr at hF
 split at hF
 ·rename_i fn hfn
  split at hF
  ·rename_i code lM
   split at hF
   ·rename_i ac rs hac rZ
    split at hF
    ·cases hF
    ·rename_i hname
     simp only [Option.some.injEq,dz.erase,dz.mk.injEq] at hF
     obtain ⟨h1,h2,h3⟩:=hF
     subst h2
     subst h3
     exact ⟨fn,code,hfn,lM,by simpa using hname,h1,by rw [←h1];exact hac,rZ⟩
   ·cases hF
  ·cases hF
 ·cases hF
def C8 (F:dz) (K:AV→List (Nat×aF)→Nat→Prop):Exit→St→Prop:=fun e st=>(e=.ret∨e=.normal)∧∃ r,jd F.results st=some r∧K r st.heap st.next
structure ir (Ds:List Nat) (w w2:World):Prop where
 os:w2.os=w.os
 tape:w2.tape=w.tape
 output:w2.output=w.output
 size:w2.heap.size=w.heap.size
 keep:∀ b,b ∉ Ds→w2.heap[b]?=w.heap[b]?
 done:∀ D,D∈Ds→∃ x,w2.heap[D]?=some (.deferred x)
 was:∀ D,D∈Ds→∃ x,w.heap[D]?=some (.deferred x)
theorem ir.block {Ds:List Nat} {w w2:World} (S:ir Ds w w2) {b:Nat} {o:Obj} (h:w.heap[b]?=some o) (ho:∀ x,o≠.deferred x):w2.heap[b]?=some o:=by
 by_cases hb:b∈Ds
 ·obtain ⟨x,hx⟩:=S.was b hb
  rw [h] at hx;cases hx;exact absurd rfl (ho x)
 ·rw [S.keep b hb];exact h
theorem ir.cell {Ds:List Nat} {w w2:World} (S:ir Ds w w2) (p:Addr):w2.cell? p=w.cell? p:=by
 by_cases hb:p.block∈Ds
 ·obtain ⟨x,hx⟩:=S.was _ hb
  obtain ⟨y,hy⟩:=S.done _ hb
  simp only [World.cell?,hx,hy]
 ·simp only [World.cell?,S.keep _ hb]
theorem ir.C9 {Ds:List Nat} {w w2:World} (S:ir Ds w w2) (Z:Nat→Nat):iD Z w w2:=⟨fun b o _=>S.cell _,fun b cG clock _ hb=>(S.block hb (by simp)).trans hb.symm⟩
theorem RV.shut {Ds:List Nat} {w w2:World} (S:ir Ds w w2) {x:AV} {v:Value} (hv:RV C g h N w x v):RV C g h N w2 x v:=by
 induction hv with
 | top v=>exact .top v
 | undef=>exact .undef
 | ak x v hr=>exact .ak x v (hr.mono (fun _=>uk _) (S.C9 _))
 | nil=>exact .nil
 | cx a cap=>exact .cx a cap
 | aS id af v hr hid ht=>
  refine .aS id af v (hr.mono (fun _=>uk _) (S.C9 _)) hid fun sz len hg => ?_
  obtain ⟨h1,h2,h3⟩:=ht sz len hg
  refine ⟨h1,h2,fun e => ?_⟩
  rcases h3 e with h4 | ⟨b,cap,c,e',h5,h6,h7,h8⟩
  ·exact .inl h4
  ·exact .inr ⟨b,cap,c,e',h5,h6,S.block h7 (by simp),h8⟩
 | cF cells b off cv hz hc hr=>
  exact .cF cells b off cv hz (fun j c h1=>⟨(S.cell _).trans (hc j c h1).1,(hc j c h1).2⟩) (fun j c h1=>(hr j c h1).mono (fun _=>uk _) (S.C9 _))
 | ptr id row off v hid h1 hp=>exact .ptr id row off v hid h1 hp
 | Zai id off len v hid h1 hp=>
  refine .Zai id off len v hid h1 fun sz af hg => ?_
  obtain ⟨h2,h3⟩:=hp sz af hg
  refine ⟨h2,?_⟩
  rcases h3 with h4 | ⟨b,cap,c,e',h5,h6,h7,h8,h9⟩
  ·exact .inl h4
  ·exact .inr ⟨b,cap,c,e',h5,h6,h7,S.block h8 (by simp),h9⟩
 | func f first bq vf vc hlf hlc hf hc Aj CJ=>exact .func f first bq vf vc hlf hlc Aj CJ
 | map id v hid h1 hp=>exact .map id v hid h1 hp
 | agg cs vs hl h1 hr ih=>exact .agg cs vs hl h1 ih
 | tuple cs vs hl hr ih=>exact .tuple cs vs hl ih
 | eE l id hid hp=>exact .eE l id hid hp
theorem RH.shut {Ds:List Nat} {w w2:World} (S:ir Ds w w2) (F:C.Ah g w2) (R:RH C g h N w):RH C g h N w2 where
 inj:=R.inj
 lt:=fun i b hb=>⟨by rw [S.size];exact (R.lt i b hb).1,(R.lt i b hb).2⟩
 key:=R.key
 obj:=fun i b o hb ho=>by
  have H:=R.obj i b o hb ho
  cases o with
  | af sz af=>
   obtain ⟨h0,c,e,h1,h2,h3⟩:=H
   refine ⟨h0,c,e,S.block h1 (by simp),h2,fun i row j x hi hj => ?_⟩
   obtain ⟨cv,h4,h5,h6⟩:=h3 i row j x hi hj
   exact ⟨cv,h4,h5,h6.shut S⟩
  | aT sz len=>obtain ⟨c,e,h1,h2,h3⟩:=H;exact ⟨c,e,S.block h1 (by simp),h2,h3⟩
  | map es=>
   obtain ⟨h0,cG,clock,h1,h2,h3⟩:=H
   refine ⟨h0,cG,clock,S.block h1 (by simp),h2,fun i k x hi => ?_⟩
   obtain ⟨e,h4,h5,h6⟩:=h3 i k x hi
   exact ⟨e,h4,h5,h6.shut S⟩
  | dead=>trivial
  | lp l R s pe=>exact ⟨H.1,H.2.1,S.block H.2.2 (by simp)⟩
 cR:=R.cR
 ea:=fun b hb=>by rw [S.size];exact R.ea b hb
 fix:=F
theorem b8.shut {Ds:List Nat} {w0 w w2:World} (S:ir Ds w w2) (hD:∀ D∈Ds,w0.heap.size≤D) (E:b8 g h N w0 g' h' N' w):b8 g h N w0 g' h' N' w2 where
 os:=S.os.trans E.os
 tape:=S.tape.trans E.tape
 output:=S.output.trans E.output
 size:=by rw [S.size];exact E.size
 old:=fun b hb ho=>⟨(S.keep b (fun hm=>by have:=hD b hm;omega)).trans (E.old b hb ho).1,(E.old b hb ho).2⟩
 own:=E.own
 cg:=E.cg
 cell:=⟨fun b o ho=>(S.cell _).trans (E.cell.c b o ho),fun b cG clock hz hb=>by
  have h1:=E.cell.m b cG clock hz hb
  rw [hb] at h1 ⊢
  exact S.block h1 (by simp)⟩
 shape:=fun b c e hb=>by
  obtain ⟨c',h1,h2⟩:=E.shape b c e hb
  exact ⟨c',S.block h1 (by simp),h2⟩
 next:=E.next
 eo:=E.eo
 cJ:=E.cJ
 af:=E.af
 cS:=E.cS
 maps:=E.maps
 fE:=E.fE
theorem Xi {P:Program} {fn:Func} {tmps:Array Value} {R:Ending→World→Prop}:∀ (Ds:List Nat) (w:World),Ds.Nodup→(∀ D∈Ds,w.heap[D]?=some (.deferred (some []))) →
  (∀ w2,ir Ds w w2→∃ v,(results fn tmps).run P w2=.ok v w2∧R (.returned v) w2)→LeavesInM Fence.wide 0 P fn tmps R (Ds.map fun D=>{target:=.collected D,args := #[]}) .returning w
 | [],w,_,_,h=>h w ⟨rfl,rfl,rfl,rfl,fun _ _=>rfl,fun _ h=>(by cases h),fun _ h=>(by cases h)⟩
 | D::Ds,w,hn,hD,h=>by
  obtain ⟨n1,n2⟩:=List.nodup_cons.1 hn
  have h0:=hD D (by simp)
  have hlt:D < w.heap.size:=(ub.1 h0).1
  refine ⟨by simp,.inl ⟨D,w.putObj D (.deferred none),rfl,run_takeDeferred h0,?_⟩⟩
  have fX:∀ E∈Ds,(w.putObj D (.deferred none)).heap[E]?=some (.deferred (some [])):=fun E hE=>by
   have hne:E≠D:=fun e=>n1 (by rw [←e];exact hE)
   rw [World.putObj_heap_other hne];exact hD E (by simp [hE])
  refine Xi Ds _ n2 fX fun w2 S=>h w2 ⟨S.os,S.tape,S.output,by rw [S.size];simp,fun b hb => ?_,fun E hE => ?_,fun E hE=>⟨_,hD E hE⟩⟩
  ·simp only [uB,not_or] at hb
   rw [S.keep b hb.2,World.putObj_heap_other hb.1]
  ·by_cases hm:E∈Ds
   ·exact S.done E hm
   ·rcases uB.1 hE with rfl | hE
    ·exact ⟨none,by rw [S.keep _ hm];exact World.putObj_heap_same hlt⟩
    ·exact absurd hE hm
theorem WU {C:bA} (hro:C.ro=none) {f:Nat} {F:dz} (hF:qr C f=some F.erase) {args:List AV} {heap:List (Nat×aF)} {next:Nat} {K:AV→List (Nat×aF)→Nat→Prop} (hn:args.length≤F.nt)
  (h:∀ B,cD C ⟨F.nt,B⟩ F.body (C8 F K) {env:=jn 0 args,heap:=heap,next:=next}) {g:Gh} {w:World} {vs:List Value} (R:RH C g (za heap) (· < next) w) (hv:nG C g (za heap) (· < next) w args vs) (hI:C.inv g ⟨[],heap,next⟩ w) :
  Calls C.P (C.ew f) vs.toArray w fun e w'=>∃ v r heap' next' g',e=.returned v∧K r heap' next' ∧
   b8 g (za heap) (· < next) w g' (za heap') (· < next') w'∧RH C g' (za heap') (· < next') w'∧RV C g' (za heap') (· < next') w' r v:=by
 obtain ⟨fn,code,hfn,lM,hname,hnt,hcomp,hres⟩:=ZA hF
 refine callsIn_wide.1 (callsIn_of_wp_marks (n:=0) hfn lM trivial ?_)
 have hsz:vs.length≤F.nt:=by rw [←hv.1];exact hn
 have R0:Rel C ⟨F.nt,w.heap.size⟩ g {env:=jn 0 args,heap:=heap,next:=next} {tmps:=vs.toArray++un (fn.ntmps - vs.toArray.size) undef,defers:=[]} w:=by
  refine ⟨⟨by simp [hnt];omega,Marks.nil _ (uk _),fun t x hx => ?_⟩,R⟩
  obtain ⟨_,h2⟩:=VT args 0 t x hx
  simp only [uS] at h2
  have hlt:t < vs.length:=by rw [←hv.1];exact (ua.1 h2).1
  have cT:(vs.toArray++un (fn.ntmps - vs.toArray.size) undef).getD t undef=vs[t]:=by
   simp [Array.getElem?_append,hlt]
  show RV C g (za heap) (· < next) w x ((vs.toArray++un (fn.ntmps - vs.toArray.size) undef).getD t undef)
  rw [cT]
  exact hv.2 t x vs[t] h2 (by simp)
 have hb:=h w.heap.size code hcomp g _ w R0 hI
 rw [hro] at hb
 refine Code.wpIn_mono ?_ hb
 rintro e a' w' ⟨aY,g',⟨he,r,hr,hK⟩,R',E⟩
 have hD:=R'.env.defers
 obtain ⟨lJ,Ds,iG,hd2,o6⟩:=hD
 have key:LeavesInM Fence.wide 0 C.P fn a'.tmps (fun e w'=>∃ v r heap' next' g',e=.returned v∧K r heap' next'∧b8 g (za heap) (· < next) w g' (za heap') (· < next') w'∧RH C g' (za heap') (· < next') w'∧RV C g' (za heap') (· < next') w' r v) a'.defers .returning w':=by
  rw [iG]
  refine Xi Ds w' hd2 (fun D hD=>(o6 D hD).2.1) fun w2 S => ?_
  have R2:Rel C ⟨F.nt,w.heap.size⟩ g' aY {a' with defers:=[]} w2:=⟨⟨R'.env.size,Marks.nil _ (by rw [S.size];exact lJ),fun t x hx=>(R'.env.slot t x hx).shut S⟩,R'.heap.shut S (R.fix.eN (E.shut S (fun D hD=>(o6 D hD).1)))⟩
  obtain ⟨v,h1,h2⟩:=Oa R2 hres hr
  exact ⟨v,h1,v,r,aY.heap,aY.next,g',rfl,hK,E.shut S (fun D hD=>(o6 D hD).1),R2.heap,h2⟩
 rcases he with rfl | rfl
 ·exact key
 ·exact key
theorem bJ.enter {C:Ctx} {f:Nat} {F:dz} (hF:qr C f=some F.erase) {args:List AV} {heap:List (Nat×aF)} {next:Nat} {K:AV→List (Nat×aF)→Nat→Prop} (hn:args.length≤F.nt)
  (h:∀ B,cD C.plain ⟨F.nt,B⟩ F.body (C8 F K) {env:=jn 0 args,heap:=heap,next:=next}):bJ C f args heap next K:=by
 obtain ⟨fn,code,hfn,lM,hname,_⟩:=ZA hF
 exact ⟨⟨fn,hfn,by simp [lM],hname⟩,fun g w vs R hv=>WU (C:=C.plain) rfl hF hn h R hv trivial⟩
theorem aJ.of {f:Nat} {args:List IV} {r:IV} {d:Nat} (hc:bJ C f (args.map .ak) [] 0 fun x heap _=>zD (za heap) d x=some r):aJ C f args r:=by
 refine ⟨hc.1,fun Z w vs hz hf hv => ?_⟩
 have R:RH C ⟨fun _=>none,Z⟩ (za []) (· < 0) w:=⟨fun i j b h=>(by cases h),fun i b h=>(by cases h),fun i o h=>(by simp [za] at h),fun i b o h=>(by cases h),fun i sz len h=>(by simp [za] at h),hz,hf.1,hf.2,fun b hb ⟨i,hi⟩=>(by cases hi)⟩
 refine (hc.2 _ w vs R ⟨by simpa using hv.1,fun j x u hx hu => ?_⟩).mono ?_
 ·simp only [uu,ud] at hx
  obtain ⟨y,hy,rfl⟩:=hx
  exact .ak _ _ (hv.2 j y u hy hu)
 ·rintro e w' ⟨v,x,heap',next',g',rfl,hK,E,R',hx⟩
  have ng:∀ b,¬ vM (⟨fun _=>none,Z⟩:Gh) b:=fun b ⟨i,hi⟩=>(by cases hi)
  let Z1:Nat→Nat:=fun b=>if b < w.heap.size then Z b else match w'.heap[b]? with
   | some (.cells c _ _)=>max (g'.Z b) c.size
   | some (.map _ _)=>max (g'.Z b) 1
   | _=>g'.Z b
  have iq:∀ b,g'.Z b≤Z1 b:=fun b=>by
   show g'.Z b≤(if b < w.heap.size then Z b else match w'.heap[b]? with | some (.cells c _ _)=>max (g'.Z b) c.size | some (.map _ _)=>max (g'.Z b) 1 | _=>g'.Z b)
   split
   ·rename_i hb;rw [(E.old b hb (ng b)).2];exact uk _
   ·split
    ·exact uy _ _
    ·exact uy _ _
    ·exact uk _
  have hO:∀ i b sz af,g'.ρ i=some b→za heap' i=some (.af sz af)→af.length*sz≤Z1 b:=fun i b sz af hb ho=>by
   obtain ⟨hz,c,e,hc,hlen,hcells⟩:=R'.obj i b _ hb ho
   have hnew:¬ b < w.heap.size:=by
    rcases E.own b ⟨i,hb⟩ with h | h
    ·exact absurd h (ng b)
    ·omega
   have hZ:Z1 b=max (g'.Z b) c.size:=by
    show (if b < w.heap.size then Z b else match w'.heap[b]? with | some (.cells c _ _)=>max (g'.Z b) c.size | some (.map _ _)=>max (g'.Z b) 1 | _=>g'.Z b)=_
    rw [if_neg hnew,hc]
   rw [hZ]
   refine uT ?_ (ux _ _)
   rcases ur (af.length*sz) with h0 | h0
   ·omega
   ·have hs:0 < sz:=ut fun e=>by subst e;simp at h0
    have hr:0 < af.length:=ut fun e=>by rw [e] at h0;simp at h0
    have hrow:af[af.length - 1]?=some (af[af.length - 1]'(by omega)):=by simp
    have hl:=hlen _ _ hrow
    obtain ⟨cv,h3,_⟩:=hcells (af.length - 1) _ (sz - 1) ((af[af.length - 1]'(by omega))[sz - 1]'(by omega)) hrow (by simp)
    have hlt:=(ub.1 h3).1
    have:(af.length - 1)*sz+sz=af.length*sz:=by
     rw [←uU];congr 1;omega
    omega
  have hM:∀ i b es,g'.ρ i=some b→za heap' i=some (.map es)→0 < Z1 b:=fun i b es hb ho=>by
   obtain ⟨hz,cG,clock,hw,_⟩:=R'.obj i b _ hb ho
   have hnew:¬ b < w.heap.size:=by
    rcases E.own b ⟨i,hb⟩ with h | h
    ·exact absurd h (ng b)
    ·omega
   have hZ:Z1 b=max (g'.Z b) 1:=by
    show (if b < w.heap.size then Z b else match w'.heap[b]? with | some (.cells c _ _)=>max (g'.Z b) c.size | some (.map _ _)=>max (g'.Z b) 1 | _=>g'.Z b)=_
    rw [if_neg hnew,hw]
   rw [hZ]
   exact ug uP (ux _ _)
  refine ⟨v,Z1,rfl,Y7 R' Z1 iq hO hM d _ _ _ hK hx,fun b hb => ?_,fun b hb => ?_,⟨E.os,E.tape,E.output,E.size,fun k hk=>(E.old k hk (ng k)).1⟩⟩
  ·show (if b < w.heap.size then Z b else match w'.heap[b]? with | some (.cells c _ _)=>max (g'.Z b) c.size | some (.map _ _)=>max (g'.Z b) 1 | _=>g'.Z b)=Z b
   rw [if_pos hb]
  ·rcases uv b w'.heap.size with h | h
   ·exact h
   ·have hn:w'.heap[b]?=none:=um h
    have hb':Z1 b=g'.Z b:=by
     show (if b < w.heap.size then Z b else match w'.heap[b]? with | some (.cells c _ _)=>max (g'.Z b) c.size | some (.map _ _)=>max (g'.Z b) 1 | _=>g'.Z b)=_
     have:=E.size
     rw [if_neg (by omega),hn]
    exact R'.ea b (by omega)
end
end
section
def zQ (m:Nat):AV→Bool
 | .aS i _=>decide (i < m)
 | .ptr i _ _=>decide (i < m)
 | .Zai i _ _=>decide (i < m)
 | .map i=>decide (i < m)
 | .eE _ i=>decide (i < m)
 | .func _ _ _ | .agg _ | .tuple _=>false
 | _=>true
def xz (m:Nat):AV→Bool
 | .func _ first bq=>first.all (zQ m)&&bq.all (zQ m)
 | .agg cs=>cs.all (zQ m)
 | .tuple cs=>cs.all (zQ m)
 | x=>zQ m x
def zZ (m:Nat):AV→Bool
 | .tuple cs=>cs.all (xz m)
 | x=>xz m x
def z6 (m:Nat):aF→Prop
 | .af _ af=>∀ row∈af,∀ x∈row,zZ m x=true
 | .aT _ _=>True
 | .map es=>∀ e∈es,zZ m e.2=true
 | .dead=>True
 | .lp _ _ _ _=>True
section
variable {C:Ctx} {nt:Fr} {g g':Gh} {h h':Nat→Option aF} {N N':Nat→Prop} {st aY:St} {a:Act} {w w':World} {m:Nat}
def Gh.below (g:Gh) (m:Nat):Gh:=⟨fun i=>if i < m then g.ρ i else none,g.Z⟩
theorem RV.leaf (hh:∀ i o,h' i=some o→h i=some o) {x:AV} {v:Value} (hb:zQ m x=true) (hv:RV C g h N w x v):RV C (g.below m) h' (· < m) w x v:=by
 cases hv with
 | top v=>exact .top v
 | undef=>exact .undef
 | ak x v hr=>exact .ak x v hr
 | nil=>exact .nil
 | cx a cap=>exact .cx a cap
 | eE l i hid hp=>
  have eR:i < m:=by simpa [zQ] using hb
  refine .eE l i eR fun R s pe hg => ?_
  simp only [Gh.below,if_pos eR]
  exact hp R s pe (hh i _ hg)
 | aS i af v hr hid ht=>
  have eR:i < m:=by simpa [zQ] using hb
  refine .aS i af v hr eR fun sz len hg => ?_
  obtain ⟨h1,h2,h3⟩:=ht sz len (hh i _ hg)
  refine ⟨h1,h2,fun e => ?_⟩
  simp only [Gh.below,if_pos eR]
  exact h3 e
 | cF cells b off cv hz hc hr=>exact .cF cells b off cv hz hc hr
 | ptr i row off v hid h1 hp=>
  have eR:i < m:=by simpa [zQ] using hb
  refine .ptr i row off v eR h1 fun sz af hg => ?_
  simp only [Gh.below,if_pos eR]
  exact hp sz af (hh i _ hg)
 | Zai i off len v hid h1 hp=>
  have eR:i < m:=by simpa [zQ] using hb
  refine .Zai i off len v eR h1 fun sz af hg => ?_
  simp only [Gh.below,if_pos eR]
  exact hp sz af (hh i _ hg)
 | map i v hid h1 hp=>
  have eR:i < m:=by simpa [zQ] using hb
  refine .map i v eR h1 fun es hg => ?_
  simp only [Gh.below,if_pos eR]
  exact hp es (hh i _ hg)
 | func=>simp [zQ] at hb
 | agg=>simp [zQ] at hb
 | tuple=>simp [zQ] at hb
theorem RV.fP (hh:∀ i o,h' i=some o→h i=some o) {x:AV} {v:Value} (hb:xz m x=true) (hv:RV C g h N w x v):RV C (g.below m) h' (· < m) w x v:=by
 cases hv with
 | func f first bq vf vc hlf hlc hf hc=>
  simp only [xz,uj,ue] at hb
  exact .func f first bq vf vc hlf hlc (fun i c v h1 h2=>(hf i c v h1 h2).leaf hh (hb.1 c (uc h1))) (fun i c v h1 h2=>(hc i c v h1 h2).leaf hh (hb.2 c (uc h1)))
 | agg cs vs hl h1 hr=>
  simp only [xz,ue] at hb
  exact .agg cs vs hl h1 fun i c v h2 h3=>(hr i c v h2 h3).leaf hh (hb c (uc h2))
 | tuple cs vs hl hr=>
  simp only [xz,ue] at hb
  exact .tuple cs vs hl fun i c v h2 h3=>(hr i c v h2 h3).leaf hh (hb c (uc h2))
 | top v=>exact .top v
 | undef=>exact .undef
 | ak x v hr=>exact .ak x v hr
 | nil=>exact .nil
 | cx a cap=>exact .cx a cap
 | eE l i hid hp=>exact RV.leaf hh hb (.eE l i hid hp)
 | aS i af v hr hid ht=>exact RV.leaf hh hb (.aS i af v hr hid ht)
 | cF cells b off cv hz hc hr=>exact .cF cells b off cv hz hc hr
 | ptr i row off v hid h1 hp=>exact RV.leaf hh hb (.ptr i row off v hid h1 hp)
 | Zai i off len v hid h1 hp=>exact RV.leaf hh hb (.Zai i off len v hid h1 hp)
 | map i v hid h1 hp=>exact RV.leaf hh hb (.map i v hid h1 hp)
theorem RV.restrict (hh:∀ i o,h' i=some o→h i=some o) {x:AV} {v:Value} (hb:zZ m x=true) (hv:RV C g h N w x v):RV C (g.below m) h' (· < m) w x v:=by
 cases hv with
 | tuple cs vs hl hr=>
  simp only [zZ,ue] at hb
  exact .tuple cs vs hl fun i c v h2 h3=>(hr i c v h2 h3).fP hh (hb c (uc h2))
 | func f first bq vf vc hlf hlc hf hc=>exact RV.fP hh hb (.func f first bq vf vc hlf hlc hf hc)
 | agg cs vs hl h1 hr=>exact RV.fP hh hb (.agg cs vs hl h1 hr)
 | top v=>exact .top v
 | undef=>exact .undef
 | ak x v hr=>exact .ak x v hr
 | nil=>exact .nil
 | cx a cap=>exact .cx a cap
 | eE l i hid hp=>exact RV.leaf hh hb (.eE l i hid hp)
 | aS i af v hr hid ht=>exact RV.leaf hh hb (.aS i af v hr hid ht)
 | cF cells b off cv hz hc hr=>exact .cF cells b off cv hz hc hr
 | ptr i row off v hid h1 hp=>exact RV.leaf hh hb (.ptr i row off v hid h1 hp)
 | Zai i off len v hid h1 hp=>exact RV.leaf hh hb (.Zai i off len v hid h1 hp)
 | map i v hid h1 hp=>exact RV.leaf hh hb (.map i v hid h1 hp)
theorem RH.restrict (R:RH C g h N w) (hN:∀ i,i < m→N i∨h' i=none) (hh:∀ i o,h' i=some o→h i=some o∧i < m∧z6 m o):RH C (g.below m) h' (· < m) w:=by
 have ni:∀ i o,h' i=some o→h i=some o:=fun i o ho=>(hh i o ho).1
 have hr:∀ i b,(g.below m).ρ i=some b→i < m∧g.ρ i=some b:=fun i b hb=>by
  simp only [Gh.below] at hb
  split at hb
  ·rename_i eR;exact ⟨eR,hb⟩
  ·cases hb
 refine ⟨fun i j b hi hj=>R.inj i j b (hr i b hi).2 (hr j b hj).2,fun i b hb=>⟨(R.lt i b (hr i b hb).2).1,(hr i b hb).1⟩,fun i o ho=>(hh i o ho).2.1,fun i b o hb ho => ?_,fun i sz len ho hn => ?_,R.ea,R.fix.1,R.fix.2.1,fun b hb ⟨i,hi⟩=>R.fix.2.2 b hb ⟨i,(hr i b hi).2⟩⟩
 ·have H:=R.obj i b o (hr i b hb).2 (ni i o ho)
  have hbel:=(hh i o ho).2.2
  cases o with
  | af sz af=>
   obtain ⟨h0,c,e,h1,h2,h3⟩:=H
   refine ⟨h0,c,e,h1,h2,fun k row j x hk hj => ?_⟩
   obtain ⟨cv,h4,h5,h6⟩:=h3 k row j x hk hj
   exact ⟨cv,h4,h5,h6.restrict ni (hbel row (uc hk) x (uc hj))⟩
  | aT sz len=>exact H
  | dead=>trivial
  | lp l R s pe=>exact H
  | map es=>
   obtain ⟨h0,cG,clock,h1,h2,h3⟩:=H
   refine ⟨h0,cG,clock,h1,h2,fun k kk x hk => ?_⟩
   obtain ⟨e,h4,h5,h6⟩:=h3 k kk x hk
   exact ⟨e,h4,h5,h6.restrict ni (hbel (kk,x) (uc hk))⟩
 ·have eR:=(hh i _ ho).2.1
  simp only [Gh.below,if_pos eR] at hn
  exact R.cR i sz len (ni i _ ho) hn
theorem jo {α:Type}:∀ {l:List (Nat×α)} {i:Nat} {x:α},za l i=some x→(i,x)∈l
 | [],i,x,h=>by simp [za] at h
 | (k,v)::r,i,x,h=>by
  simp only [za] at h
  split at h
  ·rename_i e;subst e;cases h;exact uz
  ·exact uH _ (jo h)
theorem QH {st aY:St} (hn:aY.next≤st.next) (he:∀ p∈aY.env,za st.env p.1=some p.2∧zZ aY.next p.2=true)
  (hh:∀ p∈aY.heap,za st.heap p.1=some p.2∧p.1 < aY.next∧z6 aY.next p.2):bR st aY:=by
 intro C nt g a w R
 have AF:∀ i o,za aY.heap i=some o→za st.heap i=some o∧i < aY.next∧z6 aY.next o:=fun i o ho=>hh (i,o) (jo ho)
 have ni:∀ i o,za aY.heap i=some o→za st.heap i=some o:=fun i o ho=>(AF i o ho).1
 refine ⟨g.below aY.next,⟨⟨R.env.size,R.env.defers.sub (fun b ⟨i,hi⟩=>⟨i,by simp only [Gh.below] at hi;split at hi;exact hi;cases hi⟩),fun t x hx => ?_⟩,R.heap.restrict (fun i hi=>.inl (ug hi hn)) AF⟩,fun g0 cM w0 hm E => ?_⟩
 ·obtain ⟨h1,h2⟩:=he (t,x) (jo hx)
  exact (R.env.slot t x h1).restrict ni h2
 ·have hr:∀ i,i < aY.next→(g.below aY.next).ρ i=g.ρ i:=fun i hi=>by simp only [Gh.below,if_pos hi]
  exact {
   os:=E.os
   tape:=E.tape
   output:=E.output
   size:=E.size
   old:=E.old
   own:=fun b ⟨i,hi⟩=>by
    simp only [Gh.below] at hi
    split at hi
    ·exact E.own b ⟨i,hi⟩
    ·cases hi
   cg:=E.cg
   cell:=E.cell
   shape:=E.shape
   next:=fun i hi=>ug hi hm
   eo:=fun i b hb o ho hnd hi=>by
    rw [hr i (ug hi hm)]
    exact E.eo i b hb o (ni i o ho) hnd hi
   cJ:=fun i hb hi o ho hnd=>by
    rw [hr i (ug hi hm)]
    exact E.cJ i hb hi o (ni i o ho) hnd
   af:=fun i hi sz af ho=>E.af i hi sz af (ni i _ ho)
   cS:=fun i hi sz len ho=>E.cS i hi sz len (ni i _ ho)
   maps:=fun i hi es ho=>E.maps i hi es (ni i _ ho)
   fE:=fun i hi ll RR s pe ho=>E.fE i hi ll RR s pe (ni i _ ho)}
theorem Ob {st:St} {t sz:Nat} (ht:za st.env t=some .nil) :
  bR st {env:=zk st.env t (.aS st.next []),heap:=zo st.heap st.next (.aT sz 0),next:=st.next+1}:=by
 intro C nt g a w R
 obtain ⟨g',E,H,hv⟩:=Xd (id:=st.next) R.heap (Nat.lt_irrefl _) sz
 rw [jW] at E H hv
 have e1:bB [(st.next,aF.aT sz 0)] (za st.heap)=za (zo st.heap st.next (.aT sz 0)):=by
  funext i;simp only [bB,zr]
 rw [e1] at E H hv
 refine ⟨g',⟨⟨R.env.size,R.env.defers.eN E,fun t' x hx => ?_⟩,H⟩,fun g0 cM w0 hm E0=>E0.trans E⟩
 rw [zm] at hx
 split at hx
 ·rename_i e
  subst e
  cases hx
  have:=R.env.slot t _ ht
  rw [xi this]
  exact hv
 ·exact (R.env.slot t' x hx).mono E
end
end
structure Rec where
 dst:Option Nat
 r:AV
 aN:List (Nat×aF)
 rd:List Nat
 ex:List Nat
def vU (f:Nat→Option AV):Option Nat→AV→Nat→Option AV
 | none,_=>f
 | some d,x=>fun t=>if d=t then some x else f t
def qZ:List Rec→(Nat→Bool)→Nat→(Nat→Option AV)→Nat→Option AV
 | [],_,_,f=>f
 | rc::rs,L,k,f=>qZ rs L (k+1) (if L k then vU f rc.dst rc.r else f)
def qo:List Rec→(Nat→Bool)→Nat→(Nat→Option aF)→Nat→Option aF
 | [],_,_,h=>h
 | rc::rs,L,k,h=>qo rs L (k+1) (if L k then bB rc.aN h else h)
def z8 (aN:List (Nat×aF)):List Nat:=aN.map (·.1)
theorem vv:∀ {aN:List (Nat×aF)} {h:Nat→Option aF} {i:Nat},i ∉ z8 aN→bB aN h i=h i
 | [],_,_,_=>rfl
 | (k,o)::r,h,i,hi=>by
  simp only [z8,uR,uB,not_or] at hi
  simp only [bB]
  rw [if_neg (fun e=>hi.1 e.symm)]
  exact vv hi.2
theorem Da:∀ {aN:List (Nat×aF)} {h h':Nat→Option aF} {i:Nat},i∈z8 aN→bB aN h i=bB aN h' i
 | [],_,_,_,hi=>by simp [z8] at hi
 | (k,o)::r,h,h',i,hi=>by
  simp only [bB]
  split
  ·rfl
  ·rename_i e
   simp only [z8,uR,uB] at hi
   rcases hi with hi | hi
   ·exact absurd hi.symm e
   ·exact Da hi
theorem wN {t:Nat}:∀ (recs:List Rec) (L1 L2:Nat→Bool) (k:Nat) (f1 f2:Nat→Option AV),(∀ (j:Nat) (rc:Rec),recs[j]?=some rc→rc.dst=some t→L1 (k+j)=L2 (k+j))→f1 t=f2 t →
  qZ recs L1 k f1 t=qZ recs L2 k f2 t
 | [],_,_,_,_,_,_,e=>e
 | rc::rs,L1,L2,k,f1,f2,hc,e=>by
  refine wN rs L1 L2 (k+1) _ _ (fun j tN hj hd=>by have:=hc (j+1) tN (by simpa using hj) hd;rwa [show k+(j+1)=k+1+j by omega] at this) ?_
  by_cases hd:rc.dst=some t
  ·have:=hc 0 rc rfl hd
   simp only [uw] at this
   rw [this]
   split
   ·simp [hd,vU]
   ·exact e
  ·have hp:∀ f:Nat→Option AV,vU f rc.dst rc.r t=f t:=fun f=>by
    cases hdd:rc.dst with
    | none=>rfl
    | some d=>simp only [vU];rw [if_neg (fun e=>hd (by rw [hdd,e]))]
   have h1:(if L1 k then vU f1 rc.dst rc.r else f1) t=f1 t:=by split<;>simp [hp]
   have h2:(if L2 k then vU f2 rc.dst rc.r else f2) t=f2 t:=by split<;>simp [hp]
   rw [h1,h2,e]
theorem yU {i:Nat}:∀ (recs:List Rec) (L1 L2:Nat→Bool) (k:Nat) (h1 h2:Nat→Option aF),(∀ (j:Nat) (rc:Rec),recs[j]?=some rc→i∈z8 rc.aN→L1 (k+j)=L2 (k+j))→h1 i=h2 i →
  qo recs L1 k h1 i=qo recs L2 k h2 i
 | [],_,_,_,_,_,_,e=>e
 | rc::rs,L1,L2,k,h1,h2,hc,e=>by
  refine yU rs L1 L2 (k+1) _ _ (fun j tN hj hd=>by have:=hc (j+1) tN (by simpa using hj) hd;rwa [show k+(j+1)=k+1+j by omega] at this) ?_
  by_cases hd:i∈z8 rc.aN
  ·have:=hc 0 rc rfl hd
   simp only [uw] at this
   rw [this]
   split
   ·exact Da hd
   ·exact e
  ·have h3:(if L1 k then bB rc.aN h1 else h1) i=h1 i:=by split<;>simp [vv hd]
   have h4:(if L2 k then bB rc.aN h2 else h2) i=h2 i:=by split<;>simp [vv hd]
   rw [h3,h4,e]
def yt (L:Nat→Bool) (i:Nat):Nat→Bool:=fun k=>if k=i then true else L k
theorem xS (L:Nat→Bool) {i k:Nat} (h:k≠i):yt L i k=L k:=by simp only [yt];rw [if_neg h]
theorem Zl (L:Nat→Bool) (i:Nat):yt L i i=true:=by simp [yt]
theorem FY:∀ (recs:List Rec) (L:Nat→Bool) (k i:Nat) (rc:Rec) (f:Nat→Option AV) (t:Nat),recs[i]?=some rc→(∀ (j:Nat) (rj:Rec) (d:Nat),recs[j]?=some rj→j≠i→rc.dst=some d→rj.dst≠some d)→L (k+i)=false →
  qZ recs (yt L (k+i)) k f t=vU (qZ recs L k f) rc.dst rc.r t
 | [],L,k,i,rc,f,t,hi,_,_=>by simp at hi
 | r0::rs,L,k,0,rc,f,t,hi,hd,hL=>by
  simp at hi
  subst hi
  simp only [uw] at hL ⊢
  simp only [qZ,Zl,if_true,hL,ul,if_false]
  cases fe:r0.dst with
  | none=>exact wN rs _ _ _ _ _ (fun j tN hj _=>xS _ (by omega)) rfl
  | some d=>
   simp only [vU]
   by_cases e:d=t
   ·subst e
    rw [if_pos rfl]
    have:∀ (rs:List Rec) (L:Nat→Bool) (k:Nat) (f:Nat→Option AV),(∀ (j:Nat) (rj:Rec),rs[j]?=some rj→rj.dst≠some d)→qZ rs L k f d=f d:=by
     intro rs
     induction rs with
     | nil=>intro L k f _;rfl
     | cons r1 rs ih=>
      intro L k f hn
      simp only [qZ]
      rw [ih _ _ _ (fun j rj hj=>hn (j+1) rj (by simpa using hj))]
      have h1:=hn 0 r1 rfl
      split
      ·cases iG:r1.dst with
       | none=>rfl
       | some d1=>simp only [vU];rw [if_neg (fun e=>h1 (by rw [iG,e]))]
      ·rfl
    rw [this _ _ _ _ (fun j rj hj=>hd (j+1) rj d (by simpa using hj) (by omega) fe)]
    simp
   ·rw [if_neg e]
    exact wN rs _ _ _ _ _ (fun j tN hj _=>xS _ (by omega)) (by simp [e])
 | r0::rs,L,k,i+1,rc,f,t,hi,hd,hL=>by
  simp only [qZ]
  have hk:yt L (k+(i+1)) k=L k:=xS _ (by omega)
  rw [hk,show k+(i+1)=k+1+i by omega]
  exact FY rs L (k+1) i rc _ t (by simpa using hi) (fun j rj d hj hne=>hd (j+1) rj d (by simpa using hj) (by omega)) (by rw [show k+1+i=k+(i+1) by omega];exact hL)
theorem FZ:∀ (recs:List Rec) (L:Nat→Bool) (k i:Nat) (rc:Rec) (h:Nat→Option aF) (x:Nat),recs[i]?=some rc →
  (∀ (j:Nat) (rj:Rec),recs[j]?=some rj→i < j→L (k+j)=true→∀ y,y∈z8 rc.aN→y ∉ z8 rj.aN)→L (k+i)=false →
  qo recs (yt L (k+i)) k h x=bB rc.aN (qo recs L k h) x
 | [],L,k,i,rc,h,x,hi,_,_=>by simp at hi
 | r0::rs,L,k,0,rc,h,x,hi,hd,hL=>by
  simp at hi
  subst hi
  simp only [uw] at hL ⊢
  simp only [qo,Zl,if_true,hL,ul,if_false]
  by_cases hx:x∈z8 r0.aN
  ·have:∀ (rs:List Rec) (L':Nat→Bool) (k':Nat) (h':Nat→Option aF),(∀ (j:Nat) (rj:Rec),rs[j]?=some rj→L' (k'+j)=true→x ∉ z8 rj.aN)→qo rs L' k' h' x=h' x:=by
    intro rs
    induction rs with
    | nil=>intro L' k' h' _;rfl
    | cons r1 rs ih=>
     intro L' k' h' hn
     simp only [qo]
     rw [ih _ _ _ (fun j rj hj hl=>hn (j+1) rj (by simpa using hj) (by rwa [show k'+(j+1)=k'+1+j by omega]))]
     split
     ·rename_i hl;exact vv (hn 0 r1 rfl (by simpa using hl))
     ·rfl
   rw [this _ _ _ _ (fun j rj hj hl=>by
    rw [xS _ (by omega)] at hl
    exact hd (j+1) rj (by simpa using hj) (by omega) (by rwa [show k+(j+1)=k+1+j by omega]) x hx)]
   exact Da hx
  ·rw [vv hx]
   exact yU rs _ _ _ _ _ (fun j tN hj _=>xS _ (by omega)) (by simp [vv hx])
 | r0::rs,L,k,i+1,rc,h,x,hi,hd,hL=>by
  simp only [qo]
  have hk:yt L (k+(i+1)) k=L k:=xS _ (by omega)
  rw [hk,show k+(i+1)=k+1+i by omega]
  exact FZ rs L (k+1) i rc _ x (by simpa using hi) (fun j rj hj hlt hl=>hd (j+1) rj (by simpa using hj) (by omega) (by rwa [show k+(j+1)=k+1+j by omega])) (by rw [show k+1+i=k+(i+1) by omega];exact hL)
def q5:AV→List Nat
 | .aS i _=>[i]
 | .ptr i _ _=>[i]
 | .Zai i _ _=>[i]
 | .map i=>[i]
 | _=>[]
def qg:cP→List bf
 | .dl x | .box _ x | .load _ _ x | .nS _ x | .not x | .neg x | .conv _ x | .len x | .lens x | .ic x | .ext x _ | .mks _ _ _ x=>[x]
 | .pick c a b=>[c,a,b]
 | .alloc _ _ | .fc=>[]
 | .build _ ps=>ps.map (·.2.2)
 | .cY _ _ _ ps=>ps.map (·.2)
 | .store _ x v | .idx _ x v | .idxa _ _ x v | .bin _ x v | .oT _ x v | .eqs _ _ x v | .mm _ x v | .eZ _ x v | .app _ _ x v=>[x,v]
 | .pu _ a b=>a++b
 | .look _ _ _ m k=>[m,k]
 | .upd _ m k v=>[m,k,v]
 | .slc _ x lo hi=>[x]++lo.toList++hi.toList
 | .oU x=>[x]
 | .BN _ x=>[x]
 | .eqnm _ x v=>[x,v]
 | .cut _ _ _ x=>[x]
 | .copy _ d x=>[d,x]
 | .ixa _ _ x i=>[x,i]
 | .call f args=>f::args
def wb (op:cP) (ev:bf→AV):List Nat:=(qg op).flatMap fun x=>q5 (ev x)
def zj (op:cP) (ev:bf→AV):List Nat:=match op with
 | .dl _=>[]
 | op=>wb op ev
theorem Oc {op:cP} {ev:bf→AV} {h h':Nat→Option aF} {id:Nat} (ha:∀ i∈wb op ev,h' i=h i):ai op ev h' id=ai op ev h id:=by
 have ht:∀ x∈qg op,∀ i∈q5 (ev x),h' i=h i:=fun x hx i hi=>ha i (by simp only [wb,List.mem_flatMap];exact ⟨x,hx,hi⟩)
 have hro:∀ x∈qg op,xI h' (ev x)=xI h (ev x):=fun x hx=>by
  unfold xI
  split<;>try rfl
  rename_i i off len e
  rw [ht x hx i (by rw [e];simp [q5])]
 have hlo:∀ x∈qg op,wy h' (ev x)=wy h (ev x):=fun x hx=>by
  unfold wy
  split<;>try rfl
  rename_i i off len e
  rw [ht x hx i (by rw [e];simp [q5])]
 have hme:∀ x∈qg op,jx h' (ev x)=jx h (ev x):=fun x hx=>by
  unfold jx
  split<;>try rfl
  rename_i i e
  rw [ht x hx i (by rw [e];simp [q5])]
 have hmn:∀ x∈qg op,vN h' (ev x)=vN h (ev x):=fun x hx=>by
  unfold vN
  split<;>try rfl
  rename_i i e
  rw [ht x hx i (by rw [e];simp [q5])]
 cases op with
 | eqnm neg x y=>simp only [ai,hmn x (by simp [qg])]
 | load ag n x=>
  simp only [ai]
  split<;>try rfl
  rename_i i r o e
  rw [ht x (by simp [qg]) i (by rw [e];simp [q5])]
 | store n x v=>
  simp only [ai]
  split<;>try rfl
  rename_i i r o cs e _
  rw [ht x (by simp [qg]) i (by rw [e];simp [q5])]
 | nS off x=>
  simp only [ai]
  split<;>try rfl
  rename_i i r o e
  rw [ht x (by simp [qg]) i (by rw [e];simp [q5])]
 | idx sz x i=>
  simp only [ai]
  split<;>try rfl
  split<;>try rfl
  rename_i j off len e
  rw [ht x (by simp [qg]) j (by rw [e];simp [q5])]
 | idxa n sz x i=>
  simp only [ai]
  split<;>try rfl
  rename_i k m j e1 e2
  rw [ht x (by simp [qg]) j (by rw [e2];simp [q5])]
 | len x=>simp only [ai,hlo x (by simp [qg])]
 | ic x=>
  simp only [ai]
  split<;>try rfl
  rename_i i e
  rw [ht x (by simp [qg]) i (by rw [e];simp [q5])]
 | look s z ok m k=>simp only [ai,hme m (by simp [qg])]
 | upd s m k v=>
  simp only [ai]
  split<;>try rfl
  rename_i i kv e1 e2
  rw [ht m (by simp [qg]) i (by rw [e1];simp [q5])]
 | oU x=>
  simp only [ai]
  split<;>try rfl
  rename_i i r o e
  rw [ht x (by simp [qg]) i (by rw [e];simp [q5])]
 | copy sz d x=>
  have oZ:jQ h' (ev x)=jQ h (ev x):=by
   unfold jQ
   split
   ·rename_i i off len e
    rw [ht x (by simp [qg]) i (by rw [e];simp [q5])]
   ·rw [hro x (by simp [qg])]
  simp only [ai,BO,oZ]
  split<;>try rfl
  rename_i i len e
  rw [ht d (by simp [qg]) i (by rw [e];simp [q5])]
 | app sz bL s x=>
  have oZ:jQ h' (ev x)=jQ h (ev x):=by
   unfold jQ
   split
   ·rename_i i off len e
    rw [ht x (by simp [qg]) i (by rw [e];simp [q5])]
   ·rw [hro x (by simp [qg])]
  simp only [ai]
  split
  ·rename_i i off len e
   have:=ht s (by simp [qg]) i (by rw [e];simp [q5])
   simp only [Je,oZ,this]
  ·simp only [J4,hro x (by simp [qg])]
   split<;>try rfl
   split<;>try rfl
   split<;>try rfl
   rename_i i af e2
   rw [ht s (by simp [qg]) i (by rw [e2];simp [q5])]
 | _=>rfl
theorem Od {op:cP} {ev:bf→AV} {h h':Nat→Option aF} {id:Nat} (ha:∀ i∈zj op ev,h' i=h i):ai op ev h' id=ai op ev h id:=by
 cases op with
 | dl x=>rfl
 | _=>exact Oc ha
section
def xg (N:Nat→Prop) (l:List Nat):Nat→Prop:=fun i=>N i∨i∈l
theorem Xj (N:Nat→Prop):xg N []=N:=by funext i;simp [xg]
def dF (C:Ctx) (f:Nat) (args:List AV) (h0:Nat→Option aF) (rd:List Nat) (r:AV) (aN:List (Nat×aF)) (ex:List Nat):Prop:=yq C f ∧
 ∀ (g:Gh) (h:Nat→Option aF) (N:Nat→Prop) (w:World) (vs:List Value),(∀ i∈rd,h i=h0 i)→(∀ i∈ex,¬ N i)→RH C g h N w→nG C g h N w args vs →
  Calls C.P (C.ew f) vs.toArray w fun e w'=>∃ v g',e=.returned v∧b8 g h N w g' (bB aN h) (xg N ex) w'∧RH C g' (bB aN h) (xg N ex) w'∧RV C g' (bB aN h) (xg N ex) w' r v
def nj (C:Ctx) (it:aM) (st:St) (rc:Rec):Prop:=
 match qd st.env it.guard with
 | some false=>rc.r=.undef∧rc.aN=[]∧rc.ex=[]
 | some true=>match it.op with
  | .call f args=>match zd st.env f with
   | .func f' first bq=>dF C f' (first++args.map (zd st.env)++bq) (za st.heap) rc.rd rc.r rc.aN rc.ex
   | _=>False
  | op=>ai op (zd st.env) (za st.heap) st.next=some (rc.r,rc.aN)∧rc.rd=zj op (zd st.env)∧rc.ex=[]
 | none=>False
def Qz (C:Ctx):List aM→St→List Rec→St→Prop
 | [],st,[],aY=>aY=st
 | it::its,st,rc::recs,aY=>rc.dst=it.dst∧nj C it st rc∧Qz C its (st.after it.dst rc.r rc.aN) recs aY
 | _,_,_,_=>False
def jU (a b:Rec):Bool:=(z8 a.aN).any (fun i=>b.rd.contains i||(z8 b.aN).contains i)||(z8 b.aN).any (fun i=>a.rd.contains i)
def Jl (ord:List Nat) (recs:List Rec):Bool:=
 (uW recs.length).all fun j=>match recs[j]? with
  | some rj=>(z8 rj.aN).isEmpty&&rj.rd.isEmpty||(uW j).all fun i=>match recs[i]? with
   | some ri=>ef ord i j || !jU ri rj
   | none=>true
  | none=>true
section
variable {C:Ctx} {nt:Fr} {g g':Gh} {st aY:St} {a:Act} {w w':World}
theorem Jm {ord:List Nat} {recs:List Rec} (hm:Jl ord recs=true) {i j:Nat} {ri rj:Rec} (hi:recs[i]?=some ri) (hj:recs[j]?=some rj) (hlt:i < j) (hc:jU ri rj=true):ef ord i j=true:=by
 unfold Jl at hm
 have hjl:j < recs.length:=(ua.1 hj).1
 have h1:=ue.1 hm j (by simp [hjl])
 simp only [hj,uh,uj,List.isEmpty_iff] at h1
 rcases h1 with ⟨h2,h3⟩ | h1
 ·simp [jU,h2,h3] at hc
 ·have h2:=ue.1 h1 i (by simp [hlt])
  simp only [hi,uh,uN] at h2
  rcases h2 with h2 | h2
  ·exact h2
  ·rw [hc] at h2;cases h2
theorem Jn:∀ {items:List aM} {st:St} {recs:List Rec} {aY:St},Qz C items st recs aY→recs.length=items.length
 | [],_,[],_,_=>rfl
 | [],_,_::_,_,h=>h.elim
 | _::_,_,[],_,h=>h.elim
 | it::its,st,rc::recs,aY,h=>by simp [Jn h.2.2]
theorem Qa (st:St) (dst:Option Nat) (r:AV) (aN:List (Nat×aF)):za (st.after dst r aN).env=vU (za st.env) dst r:=by
 cases dst with
 | none=>rfl
 | some d=>funext t;simp only [St.after,St.put,vU,zm]
theorem ZB (st:St) (dst:Option Nat) (r:AV) (aN:List (Nat×aF)):za (st.after dst r aN).heap=bB aN (za st.heap):=by
 cases dst<;>simp only [St.after,St.put,jN]
theorem VU (st:St) (dst:Option Nat) (r:AV) (aN:List (Nat×aF)):(st.after dst r aN).next=st.next+1:=by
 cases dst<;>rfl
theorem Y8:∀ (items:List aM) (st:St) (recs:List Rec) (aY:St) (k:Nat),Qz C items st recs aY→∀ (i:Nat) (it:aM) (rc:Rec),items[i]?=some it→recs[i]?=some rc →
  ∃ fu,nj C it fu rc∧rc.dst=it.dst∧za fu.env=qZ recs (fun j=>decide (j < k+i)) k (za st.env)∧za fu.heap=qo recs (fun j=>decide (j < k+i)) k (za st.heap)∧fu.next=st.next+i
 | [],_,[],_,_,_,i,it,rc,hi,_=>by simp at hi
 | [],_,_::_,_,_,h,_,_,_,_,_=>h.elim
 | _::_,_,[],_,_,h,_,_,_,_,_=>h.elim
 | F0::its,st,tO::recs,aY,k,⟨h1,h2,h3⟩,0,it,rc,hi,hr=>by
  simp at hi hr
  subst hi;subst hr
  refine ⟨st,h2,h1,?_,?_,rfl⟩
  ·funext t
   have:qZ (tO::recs) (fun j=>decide (j < k+0)) k (za st.env) t=qZ (tO::recs) (fun _=>false) k (za st.env) t:=wN _ _ _ _ _ _ (fun j rc _ _=>by simp) rfl
   rw [this]
   have:∀ (l:List Rec) (k:Nat) (f:Nat→Option AV),qZ l (fun _=>false) k f=f:=by
    intro l
    induction l with
    | nil=>intro k f;rfl
    | cons r l ih=>intro k f;simp [qZ,ih]
   rw [this]
  ·funext t
   have:qo (tO::recs) (fun j=>decide (j < k+0)) k (za st.heap) t=qo (tO::recs) (fun _=>false) k (za st.heap) t:=yU _ _ _ _ _ _ (fun j rc _ _=>by simp) rfl
   rw [this]
   have:∀ (l:List Rec) (k:Nat) (f:Nat→Option aF),qo l (fun _=>false) k f=f:=by
    intro l
    induction l with
    | nil=>intro k f;rfl
    | cons r l ih=>intro k f;simp [qo,ih]
   rw [this]
 | F0::its,st,tO::recs,aY,k,⟨h1,h2,h3⟩,i+1,it,rc,hi,hr=>by
  obtain ⟨fu,h4,h5,h6,h7,h8⟩:=Y8 its _ recs aY (k+1) h3 i it rc (by simpa using hi) (by simpa using hr)
  refine ⟨fu,h4,h5,?_,?_,by rw [h8,VU];omega⟩
  ·rw [h6,Qa,←h1]
   simp only [qZ]
   rw [show k+1+i=k+(i+1) by omega]
   simp
  ·rw [h7,ZB]
   simp only [qo]
   rw [show k+1+i=k+(i+1) by omega]
   simp
theorem Va:∀ (items:List aM) (st:St) (recs:List Rec) (aY:St) (k:Nat) (L:Nat→Bool),Qz C items st recs aY→(∀ j,j < items.length→L (k+j)=true) →
  za aY.env=qZ recs L k (za st.env)∧za aY.heap=qo recs L k (za st.heap)∧aY.next=st.next+items.length
 | [],_,[],_,_,_,h,_=>by cases h;exact ⟨rfl,rfl,rfl⟩
 | [],_,_::_,_,_,_,h,_=>h.elim
 | _::_,_,[],_,_,_,h,_=>h.elim
 | F0::its,st,tO::recs,aY,k,L,⟨h1,h2,h3⟩,hL=>by
  obtain ⟨h4,h5,h6⟩:=Va its _ recs aY (k+1) L h3 (fun j hj=>by have:=hL (j+1) (by simp;omega);rwa [show k+(j+1)=k+1+j by omega] at this)
  have h0:=hL 0 (by simp)
  simp only [uw] at h0
  refine ⟨?_,?_,by rw [h6,VU];simp;omega⟩
  ·rw [h4,Qa,←h1];simp only [qZ,h0,if_true]
  ·rw [h5,ZB];simp only [qo,h0,if_true]
theorem Oe (acc:Array Nat) (i:Nat):∀ (l:List Edge) (s:Nat),(l.foldl (fun s e=>if Region.binds .any e then s ||| 2 ^ e.on ||| acc.getD e.on 0 else s) s).testBit i=true →
  s.testBit i=true∨∃ e∈l,Region.binds .any e=true∧(e.on=i∨(acc.getD e.on 0).testBit i=true):=by
 intro l
 induction l with
 | nil=>intro s h;exact .inl h
 | cons e l ih=>
  intro s h
  simp only [List.foldl_cons] at h
  rcases ih _ h with h1 | ⟨e',he',h1⟩
  ·split at h1
   ·rename_i hb
    simp only [Nat.testBit_or,uh,Nat.testBit_two_pow,decide_eq_true_eq] at h1
    rcases h1 with (h1 | h1) | h1
    ·exact .inl h1
    ·exact .inr ⟨e,uz,hb,.inl h1⟩
    ·exact .inr ⟨e,uz,hb,.inr h1⟩
   ·exact .inl h1
  ·exact .inr ⟨e',uH _ he',h1⟩
theorem Of:∀ (l:List Oper) (acc:Array Nat),∃ R:Array Nat,R=l.foldl (fun acc o=>acc.push (o.after.foldl (fun s e=>if Region.binds .any e then s ||| 2 ^ e.on ||| acc.getD e.on 0 else s) 0)) acc ∧
  (∀ j,j < acc.size→R.getD j 0=acc.getD j 0) ∧
  ∀ (j:Nat) (o:Oper) (i:Nat),l[j]?=some o→(R.getD (acc.size+j) 0).testBit i=true→∃ e∈o.after,Region.binds .any e=true∧(e.on=i∨(R.getD e.on 0).testBit i=true):=by
 intro l
 induction l with
 | nil=>intro acc;exact ⟨acc,rfl,fun _ _=>rfl,fun j o i hj=>by simp at hj⟩
 | cons o l ih=>
  intro acc
  obtain ⟨R,h1,h2,h3⟩:=ih (acc.push (o.after.foldl (fun s e=>if Region.binds .any e then s ||| 2 ^ e.on ||| acc.getD e.on 0 else s) 0))
  refine ⟨R,h1,fun j hj => ?_,fun j o' i hj ht => ?_⟩
  ·rw [h2 j (by simp;omega)]
   have hne:j≠acc.size:=by omega
   simp [uI,hne]
  ·cases j with
   | zero=>
    simp at hj
    subst hj
    simp only [uw] at ht
    have hval:R.getD acc.size 0=o.after.foldl (fun s e=>if Region.binds .any e then s ||| 2 ^ e.on ||| acc.getD e.on 0 else s) 0:=by
     rw [h2 acc.size (by simp)];simp
    rw [hval,←uM] at ht
    rcases Oe acc i _ 0 ht with h4 | ⟨e,he,hb,h4⟩
    ·simp at h4
    ·refine ⟨e,by simpa using he,hb,?_⟩
     rcases h4 with h4 | h4
     ·exact .inl h4
     ·refine .inr ?_
      rcases uv e.on acc.size with hlt | hge
      ·rw [h2 e.on (by simp;omega)]
       have hne:e.on≠acc.size:=by omega
       simpa [uI,hne] using h4
      ·simp [um hge] at h4
   | succ j=>
    refine h3 j o' i (by simpa using hj) ?_
    rw [←ht]
    congr 2
    simp;omega
theorem Og {ops:Array Oper} {i j:Nat} {o:Oper} (hj:ops[j]?=some o) (hb:ef (Region.before ops).toList i j=true) :
  ∃ e∈o.after,Region.binds .any e=true∧(e.on=i∨ef (Region.before ops).toList i e.on=true):=by
 obtain ⟨R,h1,_,h3⟩:=Of ops.toList #[]
 have hR:R=Region.before ops:=by rw [h1];unfold Region.before;rw [←uM]
 have rq:∀ k,(Region.before ops).toList.getD k 0=(Region.before ops).getD k 0:=fun k=>by simp [List.getD,uo]
 unfold ef at hb ⊢
 rw [rq] at hb
 obtain ⟨e,he,nW,h4⟩:=h3 j o i (by simpa using hj) (by rw [hR];simpa using hb)
 refine ⟨e,he,nW,?_⟩
 rcases h4 with h4 | h4
 ·exact .inl h4
 ·rw [hR] at h4;rw [rq];exact .inr h4
theorem ZC {ops:Array Oper} {ord:List Nat} (hd:vR ops ord=true) {i:Nat} {o:Oper} (hi:ops[i]?=some o) {e:Edge} (he:e∈o.after) (hb:Region.binds .any e=true):e.on < i:=by
 unfold vR at hd
 simp only [uj] at hd
 have nH:i < ops.size:=(ub.1 hi).1
 have h1:=ue.1 hd.1 i (by simp [nH])
 simp only [hi] at h1
 have h2:=Array.all_eq_true_iff_forall_mem.1 h1 e he
 simpa [hb] using h2
theorem Xk {ops:Array Oper} {ord:List Nat} (hd:vR ops ord=true) {i j:Nat} {oi oj:Oper} {d:Nat} (hi:ops[i]?=some oi) (hj:ops[j]?=some oj) (fe:oi.dst=some d) (hne:i≠j) :
  oj.dst≠some d∧(d∈oj.looksAt ops→if i < j then ef ord i j=true else ef ord j i=true):=by
 unfold vR at hd
 simp only [uj] at hd
 have nH:i < ops.size:=(ub.1 hi).1
 have hjl:j < ops.size:=(ub.1 hj).1
 have h1:=ue.1 hd.2 i (by simp [nH])
 simp only [hi,fe] at h1
 have h2:=ue.1 h1 j (by simp [hjl])
 simp only [hj,uh,beq_iff_eq,hne,false_or,uj,bne_iff_ne,ne_eq,uN] at h2
 refine ⟨h2.1,fun hm => ?_⟩
 rcases h2.2 with h3 | h3
 ·have:(oj.looksAt ops).contains d=true:=by simpa using hm
  rw [this] at h3;cases h3
 ·split
  ·rename_i hlt;simpa [hlt] using h3
  ·rename_i hlt;simpa [hlt] using h3
def VV (ops:Array Oper) (listed:Array Bool):Prop:=∀ (j:Nat) (o:Oper),ops[j]?=some o→listed.getD j false=true→∀ e∈o.after,Region.binds .any e=true→listed.getD e.on false=true
theorem VW {ops:Array Oper} {listed:Array Bool} (hd:vR ops (Region.before ops).toList=true) (hc:VV ops listed):∀ (j i:Nat) (o:Oper),ops[j]?=some o →
  (∀ e∈o.after,Region.binds .any e=true→listed.getD e.on false=true)→ef (Region.before ops).toList i j=true→listed.getD i false=true:=by
 intro j
 induction j using uF with
 | _ j ih=>
  intro i o hj ha hb
  obtain ⟨e,he,nW,h1⟩:=Og hj hb
  have hl:=ha e he nW
  rcases h1 with rfl | h1
  ·exact hl
  ·have hlt:=ZC hd hj he nW
   have hjl:j < ops.size:=(ub.1 hj).1
   have F4:ops[e.on]?=some (ops[e.on]'(by omega)):=by simp
   exact ih e.on hlt i _ F4 (fun e' he' hb'=>hc e.on _ F4 hl e' he' hb') h1
end
end
section
section
variable {C:Ctx} {nt:Fr} {ro:Option Nat}
def NS (n0:Nat) (recs:List Rec) (L:Nat→Bool):Nat→Prop:=fun i=>i < n0∨(∃ k,L k=true∧i=n0+k)∨∃ k rc,L k=true∧recs[k]?=some rc∧i∈rc.ex
def Y9 (n0:Nat) (recs:List Rec):Prop:=(∀ (k:Nat) (rc:Rec) (i:Nat),recs[k]?=some rc→i∈rc.ex→n0+recs.length≤i)∧∀ (k l:Nat) (rk rl:Rec) (i:Nat),recs[k]?=some rk→recs[l]?=some rl→i∈rk.ex→i∈rl.ex→k=l
def AG (C:Ctx) (nt:Fr) (recs:List Rec) (g0:Gh) (st:St) (w0:World) (L:Nat→Bool) (a:Act) (w:World):Prop:=
 ∃ g,RH C g (qo recs L 0 (za st.heap)) (NS st.next recs L) w∧b8 g0 (za st.heap) (· < st.next) w0 g (qo recs L 0 (za st.heap)) (NS st.next recs L) w ∧
  a.tmps.size=nt.n∧Marks nt.B g w a.defers∧∀ t x,qZ recs L 0 (za st.env) t=some x→RV C g (qo recs L 0 (za st.heap)) (NS st.next recs L) w x (a.tmps.getD t undef)
theorem Db (n0:Nat) {recs:List Rec} {rc:Rec} (L:Nat→Bool) (i:Nat) (hi:recs[i]?=some rc):NS n0 recs (yt L i)=xg (qn (NS n0 recs L) (n0+i)) rc.ex:=by
 funext x
 simp only [NS,qn,xg,eq_iff_iff]
 constructor
 ·rintro (h | ⟨k,h1,rfl⟩ | ⟨k,r,h1,h2,h3⟩)
  ·exact .inl (.inl (.inl h))
  ·by_cases e:k=i
   ·subst e;exact .inl (.inr rfl)
   ·rw [xS _ e] at h1;exact .inl (.inl (.inr (.inl ⟨k,h1,rfl⟩)))
  ·by_cases e:k=i
   ·subst e;rw [hi] at h2;cases h2;exact .inr h3
   ·rw [xS _ e] at h1;exact .inl (.inl (.inr (.inr ⟨k,r,h1,h2,h3⟩)))
 ·rintro (((h | ⟨k,h1,rfl⟩ | ⟨k,r,h1,h2,h3⟩) | rfl) | h)
  ·exact .inl h
  ·by_cases e:k=i
   ·subst e;exact .inr (.inl ⟨k,Zl _ _,rfl⟩)
   ·exact .inr (.inl ⟨k,by rw [xS _ e];exact h1,rfl⟩)
  ·by_cases e:k=i
   ·subst e;exact .inr (.inr ⟨k,r,Zl _ _,h2,h3⟩)
   ·exact .inr (.inr ⟨k,r,by rw [xS _ e];exact h1,h2,h3⟩)
  ·exact .inr (.inl ⟨i,Zl _ _,rfl⟩)
  ·exact .inr (.inr ⟨i,rc,Zl _ _,hi,h⟩)
theorem Oh {n0:Nat} {recs:List Rec} (hex:Y9 n0 recs) {L:Nat→Bool} {i:Nat} (h:L i=false) (hi:i < recs.length):¬ NS n0 recs L (n0+i):=by
 rintro (h1 | ⟨k,h1,h2⟩ | ⟨k,r,h1,h2,h3⟩)
 ·omega
 ·have:k=i:=by omega
  subst this
  rw [h] at h1;cases h1
 ·have:=hex.1 k r _ h2 h3;omega
theorem Oi {n0:Nat} {recs:List Rec} (hex:Y9 n0 recs) {L:Nat→Bool} (hL:∀ k,L k=true→k < recs.length) {i:Nat} {rc:Rec} (h:L i=false) (hi:recs[i]?=some rc):∀ x∈rc.ex,¬ NS n0 recs L x:=by
 intro x hx
 have h0:=hex.1 i rc x hi hx
 rintro (h1 | ⟨k,h1,h2⟩ | ⟨k,r,h1,h2,h3⟩)
 ·omega
 ·have:=hL k h1;omega
 ·have:=hex.2 k i r rc x h2 hi h3 hx
  subst this
  rw [h] at h1;cases h1
theorem Oj {ops:Array Oper} {items:List aM} {recs:List Rec} {st aY:St} {g0:Gh} {w0:World} (hm:aL (xx C nt.n ops) ops.toList=some items) (hrun:Qz C items st recs aY)
  (hd:vR ops (Region.before ops).toList=true) (hmem:Jl (Region.before ops).toList recs=true) (hex:Y9 st.next recs) {listed:Array Bool} (hsz:listed.size=ops.size) (dY:VV ops listed)
  {i:Nat} (hi:i∈Region.ready .any ops listed) {a:Act} {w:World} (hI:AG C nt recs g0 st w0 (fun k=>listed.getD k false) a w) {Q:Exit→Act→World→Prop} {K:Act→World→Prop}
  (hK:∀ a' w',AG C nt recs g0 st w0 (fun k=>(listed.setIfInBounds i true).getD k false) a' w'→K a' w'):wpOpIn (o4 ro) 0 C.P ops Q i K a w:=by
 obtain ⟨hun,o,ho,mI⟩:=mem_ready.1 hi
 have hilt:i < ops.size:=(ub.1 ho).1
 have pJ:listed.getD i false=false:=by
  have hlt:i < listed.size:=by omega
  simp [hlt] at hun ⊢
  exact hun
 obtain ⟨hlen,cT⟩:=ql hm
 obtain ⟨it,hit,hcomp⟩:=cT i o (by simpa using ho)
 have hrl:=Jn hrun
 have hlo:items.length=ops.size:=by rw [hlen];simp
 have Ak:i < recs.length:=by omega
 have hrc:recs[i]?=some recs[i]:=by simp
 generalize Ol:recs[i]=rc at hrc
 obtain ⟨hop,fe,lK,hgd⟩:=wW hcomp
 obtain ⟨fu,gZ,ru,AH,ry,hnext⟩:=Y8 items st recs aY 0 hrun i it rc hit hrc
 simp only [uE] at AH ry
 have ow:∀ (j:Nat) (rj:Rec),recs[j]?=some rj→∃ oj,ops[j]?=some oj∧rj.dst=oj.dst:=fun j rj hj=>by
  have hjl:j < recs.length:=(ua.1 hj).1
  have nk:ops[j]?=some (ops[j]'(by omega)):=by simp
  obtain ⟨Om,Dc,On⟩:=cT j (ops[j]'(by omega)) (by rw [Array.getElem?_toList];exact nk)
  obtain ⟨_,_,h3,_,_⟩:=Y8 items st recs aY 0 hrun j Om rj Dc hj
  exact ⟨_,nk,by rw [h3];exact (wW On).2.1⟩
 have lN:∀ j,ef (Region.before ops).toList j i=true→listed.getD j false=true:=fun j hb=>VW hd dY i j o ho mI hb
 have fQ:∀ j,i < j→j < ops.size→ef (Region.before ops).toList i j=true→listed.getD j false=false:=fun j hlt hj hb=>by
  cases hc:listed.getD j false with
  | false=>rfl
  | true=>
   have nk:ops[j]?=some (ops[j]'(by omega)):=by simp
   have:=VW hd dY j i _ nk (fun e he nW=>dY j _ nk hc e he nW) hb
   rw [pJ] at this;cases this
 have nI:∀ t,t∈o.looksAt ops→qZ recs (fun k=>listed.getD k false) 0 (za st.env) t=za fu.env t:=fun t ht=>by
  rw [AH]
  refine wN _ _ _ _ _ _ (fun j rj hj F5 => ?_) rfl
  simp only [uE]
  obtain ⟨oj,nk,sA⟩:=ow j rj hj
  rw [sA] at F5
  have hjl:j < ops.size:=(ub.1 nk).1
  by_cases hji:j=i
  ·subst hji;rw [pJ];simp
  ·have h2:=(Xk hd nk ho F5 hji).2 ht
   split at h2
   ·rename_i hlt;rw [lN j h2];simp [hlt]
   ·rename_i hge;rw [fQ j (by omega) hjl h2];simp;omega
 have iH:∀ x,x∈rc.rd→qo recs (fun k=>listed.getD k false) 0 (za st.heap) x=za fu.heap x:=fun x hx=>by
  rw [ry]
  refine yU _ _ _ _ _ _ (fun j rj hj bB => ?_) rfl
  simp only [uE]
  have hjl:j < ops.size:=by have:=(ua.1 hj).1;omega
  by_cases hji:j=i
  ·subst hji;rw [pJ];simp
  ·rcases uv j i with hlt | hge
   ·have hc:jU rj rc=true:=by
     simp only [jU,uh,uC]
     exact .inl ⟨x,bB,.inl (by simpa using hx)⟩
    rw [lN j (Jm hmem hj hrc hlt hc)];simp [hlt]
   ·have hlt:i < j:=by omega
    have hc:jU rc rj=true:=by
     simp only [jU,uh,uC]
     exact .inr ⟨x,bB,by simpa using hx⟩
    rw [fQ j hlt hjl (Jm hmem hrc hj hlt hc)];simp;omega
 obtain ⟨g,R,E,hts,hdf,fy⟩:=hI
 have iO:(fun k=>(listed.setIfInBounds i true).getD k false)=yt (fun k=>listed.getD k false) i:=by
  funext k
  simp only [yt]
  by_cases e:k=i
  ·subst e;rw [if_pos rfl];have:k < listed.size:=by omega
   simp [this]
  ·rw [if_neg e];exact getD_set_ne false (fun h=>e h.symm)
 have mJ:qo recs (yt (fun k=>listed.getD k false) i) 0 (za st.heap)=bB rc.aN (qo recs (fun k=>listed.getD k false) 0 (za st.heap)):=by
  funext x
  have:=FZ recs (fun k=>listed.getD k false) 0 i rc (za st.heap) x hrc (fun j rj hj hlt hL y hy hy'=>by
   simp only [uE] at hL
   have hjl:j < ops.size:=by have:=(ua.1 hj).1;omega
   have hc:jU rc rj=true:=by
    simp only [jU,uh,uC]
    exact .inl ⟨y,hy,.inr (by simpa using hy')⟩
   rw [fQ j hlt hjl (Jm hmem hrc hj hlt hc)] at hL
   cases hL) (by simpa using pJ)
  simpa using this
 have sB:∀ t,qZ recs (yt (fun k=>listed.getD k false) i) 0 (za st.env) t=vU (qZ recs (fun k=>listed.getD k false) 0 (za st.env)) rc.dst rc.r t:=fun t=>by
  have:=FY recs (fun k=>listed.getD k false) 0 i rc (za st.env) t hrc (fun j rj d hj hne hdd=>by
   obtain ⟨oj,nk,sA⟩:=ow j rj hj
   rw [sA]
   refine (Xk hd ho nk ?_ (fun e=>hne e.symm)).1
   rw [←hdd,ru,fe]) (by simpa using pJ)
  simpa using this
 have finish:∀ (v:Value) (w':World) (g':Gh),b8 g (qo recs (fun k=>listed.getD k false) 0 (za st.heap)) (NS st.next recs fun k=>listed.getD k false) w g' (bB rc.aN (qo recs (fun k=>listed.getD k false) 0 (za st.heap))) (xg (qn (NS st.next recs fun k=>listed.getD k false) (st.next+i)) rc.ex) w' →
   RH C g' (bB rc.aN (qo recs (fun k=>listed.getD k false) 0 (za st.heap))) (xg (qn (NS st.next recs fun k=>listed.getD k false) (st.next+i)) rc.ex) w' →
   RV C g' (bB rc.aN (qo recs (fun k=>listed.getD k false) 0 (za st.heap))) (xg (qn (NS st.next recs fun k=>listed.getD k false) (st.next+i)) rc.ex) w' rc.r v→K (a.put o.dst v) w':=fun v w' g' E' R' hv=>by
  refine hK _ _ ?_
  rw [iO]
  refine ⟨g',?_,?_,?_,?_,fun t x hx => ?_⟩
  ·rw [mJ,Db _ _ _ hrc];exact R'
  ·rw [mJ,Db _ _ _ hrc];exact E.trans E'
  ·cases o.dst<;>simp [Act.put,hts]
  ·have hm':=hdf.eN E'
   cases o.dst<;>exact hm'
  ·rw [mJ,Db _ _ _ hrc]
   rw [sB,ru,fe] at hx
   cases rz:o.dst with
   | none=>
    rw [rz] at hx
    simp only [vU] at hx
    exact (fy t x hx).mono E'
   | some d=>
    rw [rz] at hx
    simp only [vU] at hx
    rw [FU a d v t (by rw [hts];exact lK d rz)]
    split at hx
    ·rename_i e;rw [if_pos e];cases hx;exact hv
    ·rename_i e;rw [if_neg e];exact (fy t x hx).mono E'
 have hfresh:¬ NS st.next recs (fun k=>listed.getD k false) (st.next+i):=Oh hex pJ Ak
 have Oo:∀ k,listed.getD k false=true→k < recs.length:=fun k hk=>by
  rcases uv k listed.size with h | h
  ·omega
  ·rw [uo,um h] at hk;cases hk
 have pK:∀ x∈rc.ex,¬ NS st.next recs (fun k=>listed.getD k false) x:=Oi hex Oo pJ hrc
 have sC:rc.ex=[]→xg (qn (NS st.next recs fun k=>listed.getD k false) (st.next+i)) rc.ex=qn (NS st.next recs fun k=>listed.getD k false) (st.next+i):=fun h=>by rw [h,Xj]
 have ox:∀ t,t∈o.looksAt ops→RV C g (qo recs (fun k=>listed.getD k false) 0 (za st.heap)) (NS st.next recs fun k=>listed.getD k false) w ((za fu.env t).getD .top) (a.tmps.getD t undef):=fun t ht=>by
  rw [←nI t ht]
  cases hs:qZ recs (fun k=>listed.getD k false) 0 (za st.env) t with
  | none=>exact .top _
  | some x=>exact fy t x hs
 have rA:∀ x∈o.op.operands,RV C g (qo recs (fun k=>listed.getD k false) 0 (za st.heap)) (NS st.next recs fun k=>listed.getD k false) w (zd fu.env (C.bk x)) (a.eval x):=fun x hx=>by
  cases x with
  | tmp t=>
   refine ox t ?_
   simp only [Oper.looksAt,uQ,List.mem_filterMap]
   exact .inl ⟨.tmp t,by simpa using hx,rfl⟩
  | const v=>exact vk v
  | global gg=>exact .top _
  | func f=>
   simp only [Ctx.bk]
   split
   ·rename_i k hk
    have:=RV.func (C:=C) (g:=g) (h:=qo recs (fun k=>listed.getD k false) 0 (za st.heap)) (N:=NS st.next recs fun k=>listed.getD k false) (w:=w) k [] [] [] [] rfl rfl (fun j c v hj=>by simp at hj) (fun j c v hj=>by simp at hj)
    rw [kV hk] at this
    exact this
   ·exact .top _
 have lO:∀ b,qd fu.env it.guard=some b→Region.wanted o (yielded ops a.tmps)=b:=fun b hg=>by
  rcases hgd with ⟨h1,h2⟩ | ⟨j,want,t,h1,h2,h3,h4⟩
  ·rw [h2] at hg
   simp only [qd,Option.some.injEq] at hg
   subst hg
   simp [Region.wanted,h1]
  ·rw [h4] at hg
   simp only [qd] at hg
   simp only [Region.wanted,h1,yielded,h2,aV]
   have hlt:t < a.tmps.size:=by rw [hts];exact h3
   have hv:=ox t (by simp only [Oper.looksAt,uQ];exact .inr (by simp [h1,h2]))
   have AI:a.tmps[t]?=some (a.tmps.getD t undef):=by simp [hlt]
   rw [AI]
   split at hg
   ·rename_i b' e
    rw [e] at hv
    cases hg
    rw [vr hv]
    cases b'<;>cases want<;>rfl
   ·rename_i e
    rw [e] at hv
    cases hg
    generalize a.tmps.getD t undef=u at hv
    cases hv
    cases want<;>rfl
   ·cases hg
 unfold wpOpIn
 simp only [ho]
 unfold nj at gZ
 split at gZ
 ·rename_i hg
  rw [lO false hg]
  simp only [ul,if_false]
  obtain ⟨h1,h2,h3⟩:=gZ
  refine ⟨fun f _=>QF _ f,?_⟩
  have hE:=b8.add g (qo recs (fun k=>listed.getD k false) 0 (za st.heap)) (NS st.next recs fun k=>listed.getD k false) w (st.next+i)
  refine finish undef w g ?_ ?_ ?_
  ·rw [h2,sC h3];exact hE
  ·rw [h2,sC h3];exact R.add _
  ·rw [h1];exact .undef
 ·rename_i hg
  rw [lO true hg]
  simp only [if_true]
  refine ⟨fun f _=>QF _ f,?_⟩
  split at gZ
  ·rename_i f args fZ
   rw [fZ] at hop
   obtain ⟨cI,S,rfl⟩:=WS hop
   obtain ⟨cc,ol⟩:=S.fN
   split at gZ
   ·rename_i f' first bq tM
    obtain ⟨fO,mG⟩:=gZ
    obtain ⟨vf,vc,oq,ot⟩:=VQ rA S tM
    have AJ:=ot w fO
    rw [Oper.semAt_eq _ _ _ (fun c hc=>by rw [ol] at hc;cases hc),AJ]
    simp only [Oper.uponIn]
    refine ⟨fun h=>(by rw [Xg] at h;cases h),K7 ?_⟩
    have mH:vf.toArray++cI.map a.eval++vc.toArray=(vf++cI.toList.map a.eval++vc).toArray:=by apply uK;simp
    rw [mH]
    refine (mG g _ _ w _ iH pK R oq).mono ?_
    rintro e w' ⟨v,g',rfl,E',R',hv⟩
    have hE:=b8.add g' (bB rc.aN (qo recs (fun k=>listed.getD k false) 0 (za st.heap))) (xg (NS st.next recs fun k=>listed.getD k false) rc.ex) w' (st.next+i)
    have Oq:qn (xg (NS st.next recs fun k=>listed.getD k false) rc.ex) (st.next+i)=xg (qn (NS st.next recs fun k=>listed.getD k false) (st.next+i)) rc.ex:=by
     funext x;simp only [qn,xg,eq_iff_iff]
     constructor
     ·rintro ((h | h) | h)
      ·exact .inl (.inl h)
      ·exact .inr h
      ·exact .inl (.inr h)
     ·rintro ((h | h) | h)
      ·exact .inl (.inl h)
      ·exact .inr h
      ·exact .inl (.inr h)
    have hR:=R'.add (st.next+i)
    have hV:=hv.mono hE
    rw [Oq] at hE hR hV
    exact finish v w' g' (E'.trans hE) hR hV
   ·exact gZ.elim
  ·rename_i sx
   obtain ⟨Dd,hrd,De⟩:=gZ
   have Df:ai it.op (zd fu.env) (qo recs (fun k=>listed.getD k false) 0 (za st.heap)) (st.next+i)=some (rc.r,rc.aN):=by
    rw [Od (h:=za fu.heap) (fun x hx=>iH x (by rw [hrd];exact hx)),←hnext]
    exact Dd
   obtain ⟨v,w',gP,g',E',R',hv⟩:=FR hop g _ _ w (st.next+i) (zd fu.env) a.eval rc.r rc.aN R hfresh rA Df
   rw [Oper.semAt_eq _ _ _ (fun c hc=>by rw [hc] at hop;simp [kl] at hop)]
   rw [←sC De] at E' R' hv
   rcases gP with gP | ⟨gP,rfl⟩
   ·rw [gP];exact finish v w' g' E' R' hv
   ·rw [gP];exact finish undef w' g' E' R' hv
 ·exact gZ.elim
theorem Qb (n k:Nat):(un n false).getD k false=false:=by
 rw [uo,Array.getElem?_replicate]
 split<;>rfl
theorem Ot {listed:Array Bool} {i:Nat} (h:i < listed.size) (hf:listed.getD i false=false):((listed.setIfInBounds i true).toList.countP (· == false))+1=listed.toList.countP (· == false):=by
 have hl:i < listed.toList.length:=by simpa using h
 have hv:listed.toList[i]=false:=by simpa [h] using hf
 rw [Array.toList_setIfInBounds,List.countP_set hl]
 have hp:0 < listed.toList.countP (· == false):=uJ.2 ⟨listed.toList[i],uq hl,by simp [hv]⟩
 simp only [hv]
 have e1:((false == false)=true):=rfl
 have e2:¬ ((true == false)=true):=by simp
 rw [if_pos e1,if_neg e2]
 omega
theorem Ou {ops:Array Oper} {items:List aM} {recs:List Rec} {st aY:St} {g0:Gh} {w0:World} (hm:aL (xx C nt.n ops) ops.toList=some items) (hrun:Qz C items st recs aY)
  (hd:vR ops (Region.before ops).toList=true) (hmem:Jl (Region.before ops).toList recs=true) (hex:Y9 st.next recs) {Q:Exit→Act→World→Prop}
  (hQ:∀ (L:Nat→Bool) a w,(∀ k,L k=decide (k < ops.size))→AG C nt recs g0 st w0 L a w→Q .normal a w) :
  ∀ (fuel:Nat) (listed:Array Bool) (a:Act) (w:World),listed.size=ops.size→VV ops listed→listed.toList.countP (· == false)≤fuel→AG C nt recs g0 st w0 (fun k=>listed.getD k false) a w →
   wpAnyIn (o4 ro) 0 C.P .any ops Q fuel listed a w:=by
 have done:∀ (listed:Array Bool) (a:Act) (w:World),listed.size=ops.size→(∀ k,k < ops.size→listed.getD k false=true)→AG C nt recs g0 st w0 (fun k=>listed.getD k false) a w→Q .normal a w:=fun listed a w hsz hall hI=>
  hQ _ a w (fun k=>by
   by_cases hk:k < ops.size
   ·rw [hall k hk];simp [hk]
   ·have:¬ k < listed.size:=by omega
    simp [hk,this]) hI
 have AK:∀ (listed:Array Bool),listed.size=ops.size→VV ops listed→Region.ready .any ops listed=[]→∀ k,k < ops.size→listed.getD k false=true:=fun listed hsz dY hr k=>by
  induction k using uF with
  | _ k ih=>
   intro hk
   cases hc:listed.getD k false with
   | true=>rfl
   | false=>
    have hok:ops[k]?=some (ops[k]'(by omega)):=by simp
    have:k∈Region.ready .any ops listed:=by
     rw [mem_ready]
     refine ⟨?_,_,hok,fun e he hb=>ih e.on (ZC hd hok he hb) (by have:=ZC hd hok he hb;omega)⟩
     have hlt:k < listed.size:=by omega
     simp [hlt] at hc ⊢
     exact hc
    rw [hr] at this
    cases this
 intro fuel
 induction fuel with
 | zero=>
  intro listed a w hsz dY iU hI
  have hall:∀ k,k < ops.size→listed.getD k false=true:=fun k hk=>by
   cases hc:listed.getD k false with
   | true=>rfl
   | false=>
    have hlt:k < listed.toList.length:=by simp;omega
    have hv:listed.toList[k]=false:=by
     have hlt':k < listed.size:=by omega
     simpa [hlt'] using hc
    have:0 < listed.toList.countP (· == false):=uJ.2 ⟨listed.toList[k],uq hlt,by simp [hv]⟩
    omega
  refine ⟨?_,done listed a w hsz hall hI⟩
  rw [List.eq_nil_iff_forall_not_mem]
  intro k hk
  obtain ⟨hun,o,ho,_⟩:=mem_ready.1 hk
  have fA:k < ops.size:=(ub.1 ho).1
  have:=hall k fA
  have hlt:k < listed.size:=by omega
  simp [hlt] at hun this
  rw [hun] at this
  cases this
 | succ fuel ih=>
  intro listed a w hsz dY iU hI
  refine ⟨fun hr=>done listed a w hsz (AK listed hsz dY hr) hI,fun i hi => ?_⟩
  obtain ⟨hun,o,ho,mI⟩:=mem_ready.1 hi
  have nH:i < ops.size:=(ub.1 ho).1
  have pJ:listed.getD i false=false:=by
   have hlt:i < listed.size:=by omega
   simp [hlt] at hun ⊢
   exact hun
  refine Oj hm hrun hd hmem hex hsz dY hi hI fun a' w' Ov=>ih _ a' w' (by simpa using hsz) ?_ ?_ Ov
  ·intro j oj nk hl e he hb
   by_cases hji:j=i
   ·subst hji
    rw [ho] at nk
    cases nk
    exact getD_set_true (mI e he hb)
   ·rw [getD_set_ne false (fun h=>hji h.symm)] at hl
    exact getD_set_true (dY j oj nk hl e he hb)
  ·have:=Ot (listed:=listed) (by omega) pJ
   omega
theorem Vb {C:bA} {ord:List Nat} {items:List aM} {ks:Option (List Nat)} {K:Exit→St→Prop} {st aY:St} {recs:List Rec} (hrun:Qz C items st recs aY) (hmem:Jl ord recs=true) (hex:Y9 st.next recs) (M:Nat) (hM:aY.next≤M) (Ow:∀ rc∈recs,∀ i∈rc.ex,i < M) (hK:K .normal (St.keep ⟨aY.env,aY.heap,M⟩ ks)) :
  cD C nt (.region true ord items ks) K st:=by
 intro code hc g a w R hI
 obtain ⟨id,ops,rfl,hm,AL⟩:=WT hc
 obtain ⟨Dg,rfl,hd⟩:=AL rfl
 obtain ⟨hlen,_⟩:=ql hm
 have hlo:items.length=ops.size:=by rw [hlen];simp
 refine wpIn_region_any Dg (Ou (g0:=g) (w0:=w) hm hrun hd hmem hex ?_ ops.size _ a w.drew (by simp) ?_ (by simp [List.countP_replicate]) ?_)
 ·intro L a' w' hL hI
  obtain ⟨g',R',E',hts,hdf,fy⟩:=hI
  obtain ⟨h1,h2,h3⟩:=Va items st recs aY 0 L hrun (fun j hj=>by rw [hL];simp;omega)
  have hrl:=Jn hrun
  have hN:∀ x,NS st.next recs L x→x < M:=by
   rintro x (h | ⟨k,hk,rfl⟩ | ⟨k,rc,hk,h4,h5⟩)
   ·omega
   ·rw [hL] at hk;simp at hk;omega
   ·exact Ow rc (uc h4) x h5
  rw [←h2] at R' E' fy
  rw [←h1] at fy
  have EN:b8 g' (za aY.heap) (NS st.next recs L) w' g' (za aY.heap) (· < M) w':={b8.refl g' (za aY.heap) (NS st.next recs L) w' with next:=hN}
  have R2:RH C g' (za aY.heap) (· < M) w':=⟨R'.inj,fun i b hb=>⟨(R'.lt i b hb).1,hN i (R'.lt i b hb).2⟩,fun i o ho=>hN i (R'.key i o ho),fun i b o hb ho=>(R'.obj i b o hb ho).keep EN rfl rfl,R'.cR,R'.ea,R'.fix⟩
  have Rel':Rel C nt g' ⟨aY.env,aY.heap,M⟩ a' w':=⟨⟨hts,hdf,fun t x hx=>(fy t x hx).mono EN⟩,R2⟩
  refine ⟨_,g',hK,Rel'.keep ks,?_⟩
  have:=E'.trans EN
  cases ks<;>exact this
 ·intro j o ho hl
  rw [Qb] at hl;cases hl
 ·have hN:NS st.next recs (fun k=>(un ops.size false).getD k false)=(· < st.next):=by
   funext x
   simp only [NS,eq_iff_iff]
   constructor
   ·rintro (h | ⟨k,hk,rfl⟩ | ⟨k,rc,hk,_,_⟩)
    ·exact h
    ·rw [Qb] at hk;cases hk
    ·rw [Qb] at hk;cases hk
   ·exact .inl
  have hL:(fun k=>(un ops.size false).getD k false)=fun _=>false:=by funext k;exact Qb _ _
  have hs:∀ (l:List Rec) (k:Nat) (f:Nat→Option AV),qZ l (fun _=>false) k f=f:=by
   intro l
   induction l with
   | nil=>intro k f;rfl
   | cons r l ih=>intro k f;simp [qZ,ih]
  have hh:∀ (l:List Rec) (k:Nat) (f:Nat→Option aF),qo l (fun _=>false) k f=f:=by
   intro l
   induction l with
   | nil=>intro k f;rfl
   | cons r l ih=>intro k f;simp [qo,ih]
  have hE:=b8.drew g (za st.heap) (· < st.next) w
  rw [hL] at hN
  rw [hL]
  refine ⟨g,?_,?_,R.env.size,R.env.defers,fun t x hx => ?_⟩
  ·rw [hh,hN];exact R.heap.drew
  ·rw [hh,hN];exact hE
  ·rw [hs] at hx
   rw [hh,hN]
   exact (R.env.slot t x hx).mono hE
end
end
end Go.Proofs.YtlpmnmbebkdocaaGreatDoor
