/-
  The abstract machine: what code asks of an abstract state, and the rules.
  The abstract machine: the rules for code.
  The abstract machine: calls; entering a function.
  The abstract machine: entering a function.
  The abstract machine: forgetting slots, objects and names.
  The abstract machine: regions that draw their order. The text's order serves every order that the edges allow.
  The abstract machine: regions that draw their order, the theorem.
  The abstract machine: the rule for regions that draw their order.
-/
import Derived.Test.YtcmmhbmgpflmeaaGreatDoorTD02
import Derived.RangeFuncSeq
import Derived.RangeFuncCalls
import Derived.OrdersIn
import Derived.TacticsIn
import Derived.Deep.LoopGhost
import Derived.Scope
open List renaming getElem?_eq_some_iff → ua, mem_of_getElem? → uc, all_eq_true → ue, getElem?_eq_getElem → uh, getElem_mem → uo, getElem?_map → ut, mem_cons_self → uy, getElem?_take_of_lt → uz, mem_cons → uA, any_eq_true → uB, length_eq_one_iff → uC, getElem?_append → uF, mem_cons_of_mem → uG, countP_pos_iff → uI, getElem?_drop → uK, filter_cons → uN, mem_append → uP, map_cons → uQ, range → uV
open Option renaming map_eq_some_iff → ud
open Bool renaming or_eq_true → ug, and_eq_true → ui, false_eq_true → uk, not_eq_true' → uM
open Nat renaming lt_of_lt_of_le → uf, le_refl → uj, eq_zero_or_pos → uq, pos_of_ne_zero → ur, lt_or_ge → uu, add_zero → uv, le_max_right → uw, le_max_left → ux, zero_add → uD, strongRecOn → uE, zero_lt_one → uO, sub_zero → uR, le_trans → uS, succ_mul → uT, add_mul → uU
open Array renaming getElem?_eq_some_iff → ub, getElem?_eq_none → ul, replicate → um, getD_eq_getD_getElem? → un, getElem?_push → uH, ext' → uJ, foldl_toList → uL
namespace Go.Proofs.YtcmmhbmgpflmeaaGreatDoor
open Go.RowKit
set_option linter.unusedSimpArgs false
set_option linter.unusedVariables false
section
def yb (C : Ctx) (f : Nat) : Prop := ∃ fn, C.P.funcs[C.eC f]? = some fn ∧ fn.body.isSome = true ∧ (fn.name == "runtime.NumGoroutine") = false
def MJ (Z:Nat→Nat) (w:World) (xs:List IV) (vs:List Value):Prop:=iB Z w xs vs
def aO (C:Ctx) (f:Nat) (args:List IV) (r:IV):Prop:=yb C f ∧
 ∀ (Z:Nat→Nat) (w:World) (vs:List Value),(∀ b,0 < Z b→b < w.heap.size)→(C.tabs.p w∧C.tabs.n≤w.heap.size)→MJ Z w args vs →
  Calls C.P (C.eC f) vs.toArray w fun e w'=>∃ v Z',e=.returned v∧RI Z' w' r v∧(∀ b,b < w.heap.size→Z' b=Z b)∧(∀ b,0 < Z' b→b < w'.heap.size)∧Below w.heap.size w w'
def nH (C:Ctx) (g:Gh) (h:Nat→Option aI) (N:Nat→Prop) (w:World) (xs:List AV) (vs:List Value):Prop:=
 xs.length=vs.length∧∀ (j:Nat) (x:AV) (u:Value),xs[j]?=some x→vs[j]?=some u→RV C g h N w x u
def bU (C:Ctx) (f:Nat) (args:List AV) (heap:List (Nat×aI)) (next:Nat) (K:AV→List (Nat×aI)→Nat→Prop):Prop:=yb C f ∧
 ∀ (g:Gh) (w:World) (vs:List Value),RH C g (zc heap) (· < next) w→nH C g (zc heap) (· < next) w args vs →
  Calls C.P (C.eC f) vs.toArray w fun e w'=>∃ v r heap' next' g',e=.returned v∧K r heap' next' ∧
   b9 g (zc heap) (· < next) w g' (zc heap') (· < next') w'∧RH C g' (zc heap') (· < next') w'∧RV C g' (zc heap') (· < next') w' r v
structure bY extends Ctx where
 ro:Option Nat
 eY:Option (Gh×St×World)
 Y:Nat→Nat→List AV→List (Nat×aI)→Nat→(AV→List (Nat×aI)→Nat→Prop)→Prop
 ol:∀ l id args heap next (K K':AV→List (Nat×aI)→Nat→Prop),(∀ r h n,K r h n→K' r h n)→Y l id args heap next K→Y l id args heap next K'
 Dd:∀ l id args heap next K,Y l id args heap next K→∀ (g:Gh) (w:World) (vs:List Value),RH toCtx g (zc heap) (· < next) w→nH toCtx g (zc heap) (· < next) w args vs→(∀ R s pe,zc heap id=some (.lp l R s pe)→g.ρ id=some l) →
  (match eY with | none=>True | some (g0,cL,w0)=>b9 g0 (zc cL.heap) (· < cL.next) w0 g (zc heap) (· < next) w) →
  YieldAt Fence.wide 0 P l vs.toArray w fun e w'=>∃ v r heap' next' g',e=.returned v∧K r heap' next' ∧
   b9 g (zc heap) (· < next) w g' (zc heap') (· < next') w'∧RH toCtx g' (zc heap') (· < next') w'∧RV toCtx g' (zc heap') (· < next') w' r v
instance:Coe bY Ctx:=⟨bY.toCtx⟩
def Aa:Nat→Nat→List AV→List (Nat×aI)→Nat→(AV→List (Nat×aI)→Nat→Prop)→Prop:=fun _ _ _ _ _ _=>False
def Ctx.plain (C:Ctx):bY:={C with ro:=none,eY:=none,Y:=Aa,ol:=fun _ _ _ _ _ _ _ _ h=>h,Dd:=fun _ _ _ _ _ _ h=>h.elim}
def bY.inv (C:bY) (g:Gh) (st:St) (w:World):Prop:=match C.eY with
 | none=>True
 | some (g0,cL,w0)=>b9 g0 (zc cL.heap) (· < cL.next) w0 g (zc st.heap) (· < st.next) w
theorem bY.inv.eS {C:bY} {g g':Gh} {st bF:St} {w w':World} (h:C.inv g st w) (E:b9 g (zc st.heap) (· < st.next) w g' (zc bF.heap) (· < bF.next) w'):C.inv g' bF w':=by
 unfold bY.inv at *
 split
 ·trivial
 ·rename_i e;rw [e] at h;exact b9.trans h E
def o6:Option Nat→Fence
 | none=>Fence.wide
 | some l=>Fence.wide.inRound l
theorem ZW (ro:Option Nat) (f:FuncId):(o6 ro).fn f:=by cases ro<;>trivial
theorem Jw (ro:Option Nat):(o6 ro).depth=none:=by cases ro<;>rfl
theorem Y3 {ro:Option Nat} {n:Nat} {P:Program} {f:FuncId} {args:Array Value} {w:World} {R:Ending→World→Prop} (h:Calls P f args w R):CallsIn (o6 ro) n P f args w R:=by
 cases ro with
 | none=>exact callsIn_wide.2 h
 | some l=>exact CallsIn.inRound l (callsIn_wide.2 h)
theorem MK {ro:Option Nat} {n:Nat} {P:Program} {l:Nat} {f:FuncId} {tmps:Array Value} {assign body:Code} {w:World} {R:Ending→World→Prop} (h:RoundIn Fence.wide n P l f tmps assign body w R):RoundIn (o6 ro) n P l f tmps assign body w R:=by
 cases ro<;>exact h
def qk:Nat:=999999
def qb {α:Type}:List (Nat×α)→Nat→α→List (Nat×α)
 | [],i,x=>[(i,x)]
 | (k,v)::r,i,x=>if k=i then (i,x)::r else if k=qk then (i,x)::(k,v)::r else (k,v)::qb r i x
theorem zF {α:Type} (l:List (Nat×α)) (i:Nat) (x:α) (j:Nat):zc (qb l i x) j=if i=j then some x else zc l j:=by
 induction l with
 | nil=>simp [qb,zc]
 | cons p r ih=>
  obtain ⟨k,v⟩:=p
  simp only [qb]
  split
  ·rename_i hk
   subst hk
   simp only [zc]
   split<;>rfl
  ·rename_i hk
   split
   ·simp only [zc]
   ·simp only [zc,ih]
    split
    ·rename_i hkj
     rw [if_neg (by omega)]
    ·rfl
def zl:List (Nat×aI)→List (Nat×aI)→List (Nat×aI)
 | [],heap=>heap
 | (k,o)::r,heap=>qb (zl r heap) k o
theorem jQ (aQ heap:List (Nat×aI)):zc (zl aQ heap)=bK aQ (zc heap):=by
 induction aQ with
 | nil=>rfl
 | cons p r ih=>
  obtain ⟨k,o⟩:=p
  funext i
  simp only [zl,bK,zF,ih]
def St.put (st:St) (dst:Option Nat) (r:AV):St:=match dst with
 | some t=>{st with env:=zs st.env t r}
 | none=>st
def St.after (st:St) (dst:Option Nat) (r:AV) (aQ:List (Nat×aI)):St:=
 St.put {st with heap:=zl aQ st.heap,next:=st.next+1} dst r
def qc (env:List (Nat×AV)):Option (Nat×Bool)→Option Bool
 | none=>some true
 | some (t,want)=>match (zc env t).getD .top with
  | .ak (.bool b)=>some (b == want)
  | .undef=>some false
  | _=>none
def vJ (C:bY) (it:bh) (st:St) (K:St→Prop):Prop:=
 match qc st.env it.guard with
 | some false=>K (st.after it.dst .undef [])
 | some true=>match it.op with
  | .call f args=>match zd st.env f with
   | .func f' first bC=>bU C f' (first++args.map (zd st.env)++bC) st.heap st.next fun r heap' next'=>K (St.put {env:=st.env,heap:=heap',next:=next'+1} it.dst r)
   | .eI l id=>C.Y l id (args.map (zd st.env)) st.heap st.next fun r heap' next'=>K (St.put {env:=st.env,heap:=heap',next:=next'+1} it.dst r)
   | _=>False
  | op=>match ap op (zd st.env) (zc st.heap) st.next with
   | some (r,aQ)=>K (st.after it.dst r aQ)
   | none=>False
 | none=>False
def AO (C:bY):List bh→(St→Prop)→St→Prop
 | [],K,st=>K st
 | it::rest,K,st=>vJ C it st (AO C rest K)
section
variable {C:Ctx} {nt:Fr} {g g':Gh} {st bF:St} {a:Act} {w w':World}
def dN (g:Gh) (st:St) (w:World) (g':Gh) (bF:St) (w':World):Prop:=b9 g (zc st.heap) (· < st.next) w g' (zc bF.heap) (· < bF.next) w'
theorem dN.refl (g:Gh) (st:St) (w:World):dN g st w g st w:=b9.refl _ _ _ _
theorem dN.trans {g₁ g₂ g₃:Gh} {s₁ s₂ s₃:St} {w₁ w₂ w₃:World} (A:dN g₁ s₁ w₁ g₂ s₂ w₂) (B:dN g₂ s₂ w₂ g₃ s₃ w₃):dN g₁ s₁ w₁ g₃ s₃ w₃:=b9.trans A B
theorem FY (a:Act) (d:Nat) (v:Value) (t:Nat) (hd:d < a.tmps.size):(a.put (some d) v).tmps.getD t undef=if d=t then v else a.tmps.getD t undef:=by
 simp only [Act.put]
 by_cases h:d=t
 ·subst h;simp [hd]
 ·rw [if_neg h];simp [Array.getElem?_setIfInBounds_ne h]
theorem RE.put {env:List (Nat×AV)} {h:Nat→Option aI} {N:Nat→Prop} (R:RE C nt g env h N a w) (d:Nat) (hd:d < nt.n) {x:AV} {v:Value} (hx:RV C g h N w x v):RE C nt g (zs env d x) h N (a.put (some d) v) w:=by
 refine ⟨by simp [Act.put,R.size],R.defers,fun t y hy => ?_⟩
 rw [FY a d v t (by rw [R.size];exact hd)]
 rw [ze] at hy
 split at hy
 ·rename_i e;rw [if_pos e];cases hy;exact hx
 ·rename_i e;rw [if_neg e];exact R.slot t y hy
theorem Rel.put (R:Rel C nt g st a w) (dst:Option Nat) (hd:∀ d,dst=some d→d < nt.n) {x:AV} {v:Value} (hx:RV C g (zc st.heap) (· < st.next) w x v) :
  Rel C nt g (st.put dst x) (a.put dst v) w:=by
 cases dst with
 | none=>exact R
 | some d=>exact ⟨R.env.put d (hd d rfl) hx,R.heap⟩
theorem xc (n:Nat):qo (· < n) n=(· < n+1):=by
 funext i
 simp only [qo,eq_iff_iff]
 omega
theorem RE.mono {env:List (Nat×AV)} {h h':Nat→Option aI} {N N':Nat→Prop} (R:RE C nt g env h N a w) (E:b9 g h N w g' h' N' w'):RE C nt g' env h' N' a w':=
 ⟨R.size,R.defers.eS E,fun t x hx=>(R.slot t x hx).mono E⟩
theorem Y4 (R:Rel C nt g st a w) {dst:Option Nat} (hd:∀ d,dst=some d→d < nt.n) {r:AV} {aQ:List (Nat×aI)} {v:Value} (hg:Good C g (zc st.heap) (· < st.next) w st.next r aQ v w') :
  ∃ g',Rel C nt g' (st.after dst r aQ) (a.put dst v) w'∧dN g st w g' (st.after dst r aQ) w':=by
 obtain ⟨g',E,H,hv⟩:=hg
 rw [xc] at E H hv
 rw [←jQ] at E H hv
 refine ⟨g',?_,?_⟩
 ·have R':Rel C nt g' {st with heap:=zl aQ st.heap,next:=st.next+1} a w':=⟨R.env.mono E,H⟩
  exact R'.put dst hd hv
 ·cases dst<;>exact E
theorem kV (R:Rel C nt g st a w) (x:Operand):RV C g (zc st.heap) (· < st.next) w (zd st.env (C.bt x)) (a.eval x):=by
 cases x with
 | tmp t=>
  simp only [Ctx.bt,zd,Act.eval]
  cases h:zc st.env t with
  | none=>exact .top _
  | some y=>exact R.env.slot t y h
 | const v=>exact wV v
 | global gg=>exact .top _
 | func f=>
  simp only [Ctx.bt]
  split
  ·rename_i i hi
   have:=RV.func (C:=C) (g:=g) (h:=zc st.heap) (N:=(· < st.next)) (w:=w) i [] [] [] [] rfl rfl (fun j c v hj=>by simp at hj) (fun j c v hj=>by simp at hj)
   rw [ky hi] at this
   exact this
  ·exact .top _
theorem wP {ops:Array Oper} {o:Oper} {it:bh} (hc:xH C nt.n ops o=some it):yO C o.op=some it.op∧it.dst=o.dst∧(∀ d,o.dst=some d→d < nt.n) ∧
  ((o.guard=none∧it.guard=none)∨∃ j want t,o.guard=some (j,want)∧(ops[j]?).bind (·.dst)=some t∧t < nt.n∧it.guard=some (t,want)):=by
 unfold xH at hc
 split at hc
 ·rename_i ao hao
  split at hc
  ·rename_i hd
   have De:∀ d,o.dst=some d→d < nt.n:=fun d h=>by simpa [h,FX] using hd
   split at hc
   ·rename_i hg;cases hc;exact ⟨hao,rfl,De,.inl ⟨hg,rfl⟩⟩
   ·rename_i j want hg
    split at hc
    ·rename_i t ht
     split at hc
     ·rename_i o7;cases hc;exact ⟨hao,rfl,De,.inr ⟨j,want,t,hg,ht,o7,rfl⟩⟩
     ·cases hc
    ·cases hc
  ·cases hc
 ·cases hc
theorem Jx (R:Rel C nt g st a w) {ops:Array Oper} {o:Oper} {it:bh} (hc:xH C nt.n ops o=some it) {b:Bool} (hg:qc st.env it.guard=some b) :
  Region.wanted o (yielded ops a.tmps)=b:=by
 obtain ⟨_,_,_,hgd⟩:=wP hc
 rcases hgd with ⟨h1,h2⟩ | ⟨j,want,t,h1,h2,h3,h4⟩
 ·rw [h2] at hg
  simp only [qc,Option.some.injEq] at hg
  subst hg
  simp [Region.wanted,h1]
 ·rw [h4] at hg
  simp only [qc] at hg
  simp only [Region.wanted,h1,yielded,h2,aS]
  have hlt:t < a.tmps.size:=by rw [R.env.size];exact h3
  cases hs:zc st.env t with
  | none=>simp [hs] at hg
  | some x=>
   have hv:=R.env.slot t x hs
   simp only [hs,Option.getD_some] at hg
   have dI:a.tmps[t]?=some (a.tmps.getD t undef):=by simp [hlt]
   rw [dI]
   split at hg
   ·rename_i b'
    cases hg
    rw [vg hv]
    cases b'<;>cases want<;>rfl
   ·cases hg
    generalize a.tmps.getD t undef=u at hv
    cases hv
    cases want<;>rfl
   ·cases hg
inductive eL (C:Ctx) (o:Op) (f:bD) (cJ:Array Operand):Prop where
 | value (fo:Operand) (ts:Array TypeId) (ho:o=.call {callee:=.value fo,args:=cJ,argTypes:=ts}) (hf:f=C.bt fo)
 | inv (r:Nat) (name:String) (ts:Array TypeId) (ho:o=.call {callee:=.invoke (.tmp r) name,args:=cJ,argTypes:=ts}) (hf:f=.m r (vX C.P C.mr name C.ifs))
theorem X5 {o:Op} {f:bD} {args:List bD} (hc:yO C o=some (.call f args)):∃ cJ,eL C o f cJ∧args=cJ.toList.map C.bt:=by
 unfold yO at hc
 split at hc
 all_goals first
  | (cases hc;done)
  | (simp only [Option.some.injEq,dc.call.injEq] at hc;obtain ⟨rfl,rfl⟩:=hc;first | exact ⟨_,.value _ _ rfl rfl,rfl⟩ | exact ⟨_,.inv _ _ _ rfl rfl,rfl⟩)
  | (repeat' split at hc)<;>(cases hc;done)
  | (unfold Xt at hc;(repeat' split at hc)<;>(cases hc;done))
  | (unfold yB at hc;(repeat' split at hc)<;>(cases hc;done))
end
end
section
section
variable {C:bY} {nt:Fr} {g g':Gh} {st bF:St} {a:Act} {w w':World}
def Post (C:Ctx) (nt:Fr) (g0:Gh) (cL:St) (w0:World) (K:Exit→St→Prop):Exit→Act→World→Prop:=
 fun e a' w'=>∃ bF g',K e bF∧Rel C nt g' bF a' w'∧dN g0 cL w0 g' bF w'
theorem ML {C:Ctx} {o:Oper} {fo:Operand} {cJ:Array Operand} {ts:Array TypeId} (ho:o.op=.call {callee:=.value fo,args:=cJ,argTypes:=ts}) {val:Operand→Value} {f:Nat} {first bC:Array Value}
  (hf:val fo=.func (.func (C.eC f)) first bC) (hc:yb C f) (w:World):(execOp val o).run C.P w=.ok (.enter (C.eC f) (first++cJ.map val++bC)) w:=by
 obtain ⟨fn,h1,h2,h3⟩:=hc
 have h4:¬ fn.body=none:=fun h=>by simp [h] at h2
 have h5 : ¬ fn.name = "runtime.NumGoroutine" := fun h => by simp [h] at h3
 simp [execOp,ho,resolve,Deferred.ofValue,hf,invoke,callFunc,h1,h4,h5]
theorem yD {P:Program} {mr:List Nat} {name:String}:∀ {ts:List TypeId} {t i:Nat},zc (vX P mr name ts) t=some i→∃ f,WJ P t name=some f∧Qq mr f=some i
 | [],t,i,h=>by cases h
 | u::r,t,i,h=>by
  unfold vX at h
  split at h
  ·rename_i f hf
   split at h
   ·rename_i j hj
    simp only [zc] at h
    split at h
    ·rename_i e
     cases h
     subst e
     exact ⟨f,hf,hj⟩
    ·exact yD h
   ·exact yD h
  ·exact yD h
theorem MM {P:Program} {t:TypeId} {name:String} {f:FuncId} (h:WJ P t name=some f) (k:Nat) (v:Value) (w:World):(method (k+1) t v name).run P w=.ok (f,v) w:=by
 unfold WJ at h
 split at h
 ·rename_i i hi
  split at h
  ·rename_i m hm
   split at h
   ·rename_i f' fs hp hf hu
    cases h
    have MN:(typeInfo t).run P w=.ok i w:=by simp [typeInfo,Sem.run_bind,hi]
    simp only [method,Sem.run_bind,MN,Result.andThen_ok,hm,hp,follow,Sem.run_pure,hf,receiverAt,run_underlying hu,Place.get]
   ·cases h
  ·cases h
 ·cases h
theorem MO {o:Oper} {fo:Operand} {cJ:Array Operand} {ts:Array TypeId} (ho:o.op=.call {callee:=.value fo,args:=cJ,argTypes:=ts}) {val:Operand→Value} {l:Nat}
  (hf:val fo=.func (.yield l) #[] #[]) {P:Program} (w:World):(execOp val o).run P w=(Instr.yield l (cJ.map val)).run P w:=by
 simp [execOp,ho,resolve,Deferred.ofValue,hf,invoke]
open Classical in
theorem WV {F:Fence} {n:Nat} {P:Program} {c:Code} {Q:Exit→Act→World→Prop} {a:Act} {w:World} (J:Nat→Act→World→Prop) (m:Nat) (h0:J m a w)
  (round:∀ m a w,J m a w→c.wpIn F n P (Exit.then (fun a' w'=>∃ m',m' < m∧J m' a' w') Q) a w):(Code.loop c).wpIn F n P Q a w:=by
 have least:∀ (p:Nat→Prop) (m:Nat),p m→∃ k,p k∧∀ j,p j→k≤j:=by
  intro p m
  induction m using uE with
  | _ m ih=>
   intro hm
   by_cases h:∃ j,j < m∧p j
   ·obtain ⟨j,hj,hp⟩:=h;exact ih j hj hp
   ·exact ⟨m,hm,fun j hj=>Nat.le_of_not_lt fun hlt=>h ⟨j,hlt,hj⟩⟩
 let μ:Act→World→Nat:=fun a w=>if h:∃ k,J k a w∧∀ j,J j a w→k≤j then h.choose else 0
 have hμ:∀ a w m,J m a w→J (μ a w) a w∧μ a w≤m:=fun a w m hm=>by
  have h:=least (fun k=>J k a w) m hm
  show J (if h:∃ k,J k a w∧∀ j,J j a w→k≤j then h.choose else 0) a w∧(if h:∃ k,J k a w∧∀ j,J j a w→k≤j then h.choose else 0)≤m
  rw [dif_pos h]
  exact ⟨h.choose_spec.1,h.choose_spec.2 m hm⟩
 refine wpIn_loop (fun a w=>∃ m,J m a w) μ ⟨m,h0⟩ fun a w ⟨m,hm⟩ => ?_
 refine Code.wpIn_mono ?_ (round (μ a w) a w (hμ a w m hm).1)
 intro e a' w' q
 cases e with
 | normal=>
  obtain ⟨m',hlt,hJ⟩:=q
  exact ⟨⟨m',hJ⟩,Nat.lt_of_le_of_lt (hμ a' w' m' hJ).2 hlt⟩
 | _=>exact q
theorem WW {C:Ctx} {g:Gh} {h:Nat→Option aI} {N:Nat→Prop} {w:World} {o:Oper} {env:List (Nat×AV)} {val:Operand→Value} (hv:∀ x∈o.op.operands,RV C g h N w (zd env (C.bt x)) (val x))
  {f:bD} {cJ:Array Operand} {f':Nat} {first bC:List AV} (S:eL C o.op f cJ) (hf:zd env f=.func f' first bC) :
  ∃ vf vc:List Value,nH C g h N w (first++(cJ.toList.map C.bt).map (zd env)++bC) (vf++(cJ.toList.map val)++vc) ∧
   ∀ w,yb C f'→(execOp val o).run C.P w=.ok (.enter (C.eC f') (vf.toArray++cJ.map val++vc.toArray)) w:=by
 cases S with
 | value fo ts ho hfo=>
  subst hfo
  have Df:=hv fo (by simp [ho,Op.operands,Call.operands])
  rw [hf] at Df
  generalize hval:val fo=v at Df
  cases Df with
  | func _ _ _ vf vc hlf hlc FZ eW=>
   refine ⟨vf,vc,⟨by simp [hlf,hlc],fun j x u hj hu => ?_⟩,fun w hc=>ML ho hval hc w⟩
   rw [List.append_assoc,uF] at hj hu
   rw [hlf] at hj
   split at hj
   ·rename_i hlt;rw [if_pos hlt] at hu;exact FZ j x u hj hu
   ·rename_i hlt
    rw [if_neg hlt] at hu
    rw [uF] at hj hu
    simp only [List.length_map] at hj hu
    split at hj
    ·rename_i fR
     rw [if_pos fR] at hu
     simp only [ut,ud] at hj hu
     obtain ⟨o1,⟨y,hy,rfl⟩,rfl⟩:=hj
     obtain ⟨z,hz,rfl⟩:=hu
     rw [hy] at hz
     cases hz
     exact hv y (by simp only [ho,Op.operands,Call.operands];simp;exact .inr (by simpa using uc hy))
    ·rename_i fR
     rw [if_neg fR] at hu
     exact eW _ x u hj hu
 | inv r name ts ho hfo=>
  subst hfo
  simp only [zd] at hf
  split at hf
  ·rename_i t x e1
   split at hf
   ·rename_i i e2
    cases hf
    obtain ⟨fid,h1,h2⟩:=yD e2
    have B5:=hv (.tmp r) (by simp [ho,Op.operands,Call.operands])
    simp only [Ctx.bt,zd] at B5
    rw [e1] at B5
    generalize hval:val (.tmp r)=v at B5
    cases B5 with
    | ak _ _ hr=>
     cases hr with
     | iface _ _ u hr=>
      refine ⟨[u],[],⟨by simp,fun j y z hj hz => ?_⟩,fun w hc => ?_⟩
      ·cases j with
       | zero=>simp at hj hz;subst hj hz;exact .ak _ _ hr
       | succ j=>
        simp only [List.append_nil,List.cons_append,List.nil_append,List.getElem?_cons_succ,ut,ud] at hj hz
        obtain ⟨o1,⟨y',hy,rfl⟩,rfl⟩:=hj
        obtain ⟨z',hz,rfl⟩:=hz
        rw [hy] at hz
        cases hz
        exact hv y' (by simp only [ho,Op.operands,Call.operands];simp;exact .inr (by simpa using uc hy))
      ·obtain ⟨fn,h3,h4,h5⟩:=hc
       have h6:¬ fn.body=none:=fun h=>by simp [h] at h4
       have h7 : ¬ fn.name = "runtime.NumGoroutine" := fun h => by simp [h] at h5
       have hfn:=ky h2
       have hm:=MM h1 (C.P.types.size+99) u w
       have hd:C.P.types.size+Made.depth=C.P.types.size+99+1:=rfl
       have he:(cJ.map val).extract 0 cJ.size=cJ.map val:=by
        apply uJ
        simp only [Array.toList_extract,List.extract_eq_take_drop,List.drop_zero,uR,Array.toList_map]
        exact List.take_of_length_le (by simp)
       rw [hfn] at h3 ⊢
       have h0:(#[Value.iface t u]++cJ.map val)[0]?=some (.iface t u):=by
        rw [Array.getElem?_append_left (by simp)];rfl
       simp [execOp,ho,resolve,hval,invoke,callMethod,he,callFunc]
       rw [h0]
       simp [Sem.run_bind,hd,hm,h3,h6,h7]
   ·cases hf
  ·cases hf
theorem MP {C:Ctx} (R:Rel C nt g st a w) {o:Oper} {f:bD} {cJ:Array Operand} {f':Nat} {first bC:List AV} (S:eL C o.op f cJ) (hf:zd st.env f=.func f' first bC) :
 ∃ vf vc:List Value,nH C g (zc st.heap) (· < st.next) w (first++(cJ.toList.map C.bt).map (zd st.env)++bC) (vf++(cJ.toList.map a.eval)++vc) ∧
  ∀ w,yb C f'→(execOp a.eval o).run C.P w=.ok (.enter (C.eC f') (vf.toArray++cJ.map a.eval++vc.toArray)) w:=WW (fun x _=>kV R x) S hf
theorem eL.gp {C:Ctx} {o:Op} {f:bD} {cJ:Array Operand} (S:eL C o f cJ):∃ c,o=.call c:=by
 cases S with
 | value fo ts ho _=>exact ⟨_,ho⟩
 | inv r name ts ho _=>exact ⟨_,ho⟩
theorem eL.eI {C:Ctx} {o:Op} {f:bD} {cJ:Array Operand} (S:eL C o f cJ) {env:List (Nat×AV)} {l id:Nat} (h:zd env f=.eI l id):∃ fo ts,o=.call {callee:=.value fo,args:=cJ,argTypes:=ts}∧f=C.bt fo:=by
 cases S with
 | value fo ts ho hf=>exact ⟨fo,ts,ho,hf⟩
 | inv r name ts ho hf=>
  subst hf
  simp only [zd] at h
  split at h
  ·split at h<;>cases h
  ·cases h
theorem MQ {ops:Array Oper} {o:Oper} {it:bh} (hc:xH C nt.n ops o=some it) {K:St→Prop} (he:vJ C it st K) (R:Rel C nt g st a w) (hI:C.inv g st w)
  {next:Act→World→Prop} {Q:Exit→Act→World→Prop}
  (hn:∀ bF g' a' w',K bF→Rel C nt g' bF a' w'→dN g st w g' bF w'→next a' w') :
  if Region.wanted o (yielded ops a.tmps) then o.wpIn (o6 C.ro) 0 C.P a w next Q else next (a.put o.dst undef) w:=by
 obtain ⟨hop,fe,nI,_⟩:=wP hc
 unfold vJ at he
 split at he
 ·rename_i hg
  rw [Jx R hc hg]
  simp only [uk,if_false]
  obtain ⟨g',R',E'⟩:=Y4 (dst:=it.dst) R (fun d hd=>nI d (fe ▸ hd)) (zz (id:=st.next) R.heap RV.undef)
  rw [fe] at R' he E'
  exact hn _ _ _ _ he R' E'
 ·rename_i hg
  rw [Jx R hc hg]
  simp only [if_true]
  split at he
  ·rename_i f args gC
   rw [gC] at hop
   obtain ⟨cJ,S,rfl⟩:=X5 hop
   obtain ⟨cc,oq⟩:=S.gp
   split at he
   ·rename_i f' first bC Ab
    obtain ⟨vf,vc,ot,ou⟩:=MP R S Ab
    obtain ⟨gq,mK⟩:=he
    have hrun:=ou w gq
    refine ⟨fun f _=>ZW _ f,?_⟩
    rw [Oper.semAt_eq _ _ _ (fun c hc=>by rw [oq] at hc;cases hc),hrun]
    simp only [Oper.uponIn]
    refine ⟨fun h=>(by rw [Jw] at h;cases h),Y3 ?_⟩
    have mL:vf.toArray++cJ.map a.eval++vc.toArray=(vf++cJ.toList.map a.eval++vc).toArray:=by apply uJ;simp
    rw [mL]
    refine (mK g w _ R.heap ot).mono ?_
    rintro e w' ⟨v,r,heap',next',g',rfl,hK,E,H,hv⟩
    have R1:Rel C nt g' {env:=st.env,heap:=heap',next:=next'} a w':=⟨R.env.mono E,H⟩
    have E2:b9 g' (zc heap') (· < next') w' g' (zc heap') (· < next'+1) w':=by
     have:=b9.add g' (zc heap') (· < next') w' next'
     rwa [xc] at this
    have H2:RH C g' (zc heap') (· < next'+1) w':=by
     have:=H.add next'
     rwa [xc] at this
    have R2:Rel C nt g' {env:=st.env,heap:=heap',next:=next'+1} a w':=⟨R1.env.mono E2,H2⟩
    have R3:=R2.put it.dst (fun d hd=>nI d (fe ▸ hd)) (hv.mono E2)
    rw [fe] at R3 hK
    refine hn _ _ _ _ hK R3 ?_
    cases hd:o.dst<;>exact b9.trans E E2
   ·rename_i l id Ab
    obtain ⟨fo,ts,ho,rfl⟩:=S.eI Ab
    have hv:=kV R fo
    rw [Ab] at hv
    generalize hval:a.eval fo=v at hv
    obtain ⟨rfl,Dg⟩:v=.func (.yield l) #[] #[]∧∀ R s pe,zc st.heap id=some (.lp l R s pe)→g.ρ id=some l:=by cases hv with | eI _ _ _ hp=>exact ⟨rfl,hp⟩
    have ot:nH C g (zc st.heap) (· < st.next) w ((cJ.toList.map C.bt).map (zd st.env)) (cJ.toList.map a.eval):=⟨by simp,fun j x u hj hu=>by
     simp only [ut,ud] at hj hu
     obtain ⟨o1,⟨y,hy,rfl⟩,rfl⟩:=hj
     obtain ⟨z,hz,rfl⟩:=hu
     rw [hy] at hz
     cases hz
     exact kV R y⟩
    obtain ⟨fn,tmps,assign,body,hy,hR⟩:=C.Dd l id _ _ _ _ he g w _ R.heap ot Dg hI
    have mL:(cJ.toList.map a.eval).toArray=cJ.map a.eval:=by apply uJ;simp
    rw [mL] at hy
    refine ⟨fun f _=>ZW _ f,?_⟩
    rw [Oper.semAt_eq _ _ _ (fun c hc=>by rw [ho] at hc;cases hc),MO ho hval,hy]
    simp only [Oper.uponIn]
    refine ⟨fun h=>(by rw [Jw] at h;cases h),MK (hR.mono ?_)⟩
    rintro e w' ⟨v,r,heap',next',g',rfl,hK,E,H,hv⟩
    have R1:Rel C nt g' {env:=st.env,heap:=heap',next:=next'} a w':=⟨R.env.mono E,H⟩
    have E2:b9 g' (zc heap') (· < next') w' g' (zc heap') (· < next'+1) w':=by
     have:=b9.add g' (zc heap') (· < next') w' next'
     rwa [xc] at this
    have H2:RH C g' (zc heap') (· < next'+1) w':=by
     have:=H.add next'
     rwa [xc] at this
    have R2:Rel C nt g' {env:=st.env,heap:=heap',next:=next'+1} a w':=⟨R1.env.mono E2,H2⟩
    have R3:=R2.put it.dst (fun d hd=>nI d (fe ▸ hd)) (hv.mono E2)
    rw [fe] at R3 hK
    refine hn _ _ _ _ hK R3 ?_
    cases hd:o.dst<;>exact b9.trans E E2
   ·exact he.elim
  ·rename_i sL
   split at he
   ·rename_i r aQ iD
    obtain ⟨v,w',hU,nj⟩:=FW hop g (zc st.heap) (· < st.next) w st.next (zd st.env) a.eval r aQ R.heap (by omega) (fun x _=>kV R x) iD
    obtain ⟨g',R',E'⟩:=Y4 (dst:=it.dst) R (fun d hd=>nI d (fe ▸ hd)) nj
    rw [fe] at R' he E'
    refine ⟨fun f _=>ZW _ f,?_⟩
    rw [Oper.semAt_eq _ _ _ (fun c hc=>by rw [hc] at hop;simp [yO] at hop)]
    rcases hU with hU | ⟨hU,rfl⟩
    ·rw [hU];exact hn _ _ _ _ he R' E'
    ·rw [hU];exact hn _ _ _ _ he R' E'
   ·exact he.elim
 ·exact he.elim
theorem MR {ops:Array Oper} {K:Exit→St→Prop} {g0:Gh} {cL:St} {w0:World}:∀ (l:List Oper) (items:List bh),aY (xH C nt.n ops) l=some items →
  ∀ (st:St) (g:Gh) (a:Act) (w:World),AO C items (K .normal) st→Rel C nt g st a w→C.inv g0 cL w0→dN g0 cL w0 g st w→wpListIn (o6 C.ro) 0 C.P ops (Post C nt g0 cL w0 K) l a w:=by
 intro l
 induction l with
 | nil=>
  intro items hm st g a w he R hI E
  simp [aY] at hm
  subst hm
  exact ⟨st,g,he,R,E⟩
 | cons o l ih=>
  intro items hm st g a w he R hI E
  simp only [aY] at hm
  split at hm
  ·rename_i it hit
   split at hm
   ·rename_i its pM
    cases hm
    have:=MQ (Q:=Post C nt g0 cL w0 K) (next:=wpListIn (o6 C.ro) 0 C.P ops (Post C nt g0 cL w0 K) l) hit he R (hI.eS E) (fun bF g' a' w' hk R' E'=>ih its pM bF g' a' w' hk R' hI (E.trans E'))
    unfold wpListIn
    split
    ·rename_i hw;rw [if_pos hw] at this;exact this
    ·rename_i hw;rw [if_neg hw] at this;exact ⟨fun f _=>ZW _ f,this⟩
   ·cases hm
  ·cases hm
def dF (C:bY) (nt:Fr) (ac:cH) (K:Exit→St→Prop) (st:St):Prop:=
 ∀ code,comp C nt.n code=some ac.erase→∀ g a w,Rel C nt g st a w→C.inv g st w→code.wpIn (o6 C.ro) 0 C.P (Post C nt g st w K) a w
def qg (ks:List Nat) (env:List (Nat×AV)):List (Nat×AV):=env.filter fun p=>ks.contains p.1
def St.keep (st:St):Option (List Nat)→St
 | none=>st
 | some ks=>{st with env:=qg ks st.env}
theorem Qt {ks:List Nat}:∀ {env:List (Nat×AV)} {t:Nat} {x:AV},zc (qg ks env) t=some x→zc env t=some x
 | [],t,x,h=>by simp [qg,zc] at h
 | (k,v)::r,t,x,h=>by
  simp only [qg,uN] at h
  split at h
  ·simp only [zc] at h ⊢
   split
   ·rename_i e;rw [if_pos e] at h;exact h
   ·rename_i e;rw [if_neg e] at h;exact Qt (ks:=ks) h
  ·rename_i hk
   have h':=Qt (ks:=ks) (env:=r) h
   simp only [zc]
   split
   ·rename_i e
    subst e
    have hkn:ks.contains k=true:=by
     have:∀ {r:List (Nat×AV)},zc (List.filter (fun p=>ks.contains p.1) r) k=some x→ks.contains k=true:=by
      intro r
      induction r with
      | nil=>intro h;simp [zc] at h
      | cons p r ih=>
       intro h
       simp only [uN] at h
       split at h
       ·rename_i hp
        simp only [zc] at h
        split at h
        ·rename_i e;rw [←e];exact hp
        ·exact ih h
       ·exact ih h
     exact this h
    exact absurd hkn hk
   ·exact h'
theorem Rel.keep {C:Ctx} (R:Rel C nt g st a w) (ks:Option (List Nat)):Rel C nt g (st.keep ks) a w:=by
 cases ks with
 | none=>exact R
 | some ks=>exact ⟨⟨R.env.size,R.env.defers,fun t x h=>R.env.slot t x (Qt h)⟩,R.heap⟩
theorem Post.mono {C:Ctx} {g0:Gh} {cL:St} {w0:World} {K K':Exit→St→Prop} (h:∀ e st,K e st→K' e st):∀ e a w,Post C nt g0 cL w0 K e a w→Post C nt g0 cL w0 K' e a w:=
 fun e a w ⟨bF,g',hk,R,E⟩=>⟨bF,g',h e bF hk,R,E⟩
theorem jY {ac:cH} {K K':Exit→St→Prop} (h:∀ e st,K e st→K' e st) (hw:dF C nt ac K st):dF C nt ac K' st:=
 fun code hc g a w R hI=>Code.wpIn_mono (Post.mono h) (hw code hc g a w R hI)
theorem F0 {K:Exit→St→Prop} (h:K .normal st):dF C nt .skip K st:=by
 intro code hc g a w R hI
 simp only [cH.erase] at hc
 cases code
 case skip=>exact wpIn_skip ⟨st,g,h,R,dN.refl _ _ _⟩
 case label l=>exact wpIn_label ⟨st,g,h,R,dN.refl _ _ _⟩
 all_goals (simp only [comp] at hc;(repeat' split at hc)<;>cases hc)
theorem MS {code:Code} {x y:cH} (hc:comp C nt.n code=some (.seq x y)):∃ p q,code=.seq p q∧comp C nt.n p=some x∧comp C nt.n q=some y:=by
 cases code<;>simp only [comp] at hc<;>(repeat' split at hc)<;>cases hc
 rename_i h1 h2
 exact ⟨_,_,rfl,h1,h2⟩
theorem MT {code:Code} {c:bD} {x y:cH} (hc:comp C nt.n code=some (.cond c x y)):∃ c' p q,code=.cond c' p q∧c=C.bt c'∧comp C nt.n p=some x∧comp C nt.n q=some y:=by
 cases code<;>simp only [comp] at hc<;>(repeat' split at hc)<;>cases hc
 rename_i h1 h2
 exact ⟨_,_,_,rfl,rfl,h1,h2⟩
theorem MU {code:Code} {id:Nat} {x:cH} (hc:comp C nt.n code=some (.block id x)):∃ p,code=.block id p∧comp C nt.n p=some x:=by
 cases code<;>simp only [comp] at hc<;>(repeat' split at hc)<;>cases hc
 rename_i h1
 exact ⟨_,rfl,h1⟩
theorem MV {code:Code} {x:cH} (hc:comp C nt.n code=some (.loop x)):∃ p,code=.loop p∧comp C nt.n p=some x:=by
 cases code<;>simp only [comp] at hc<;>(repeat' split at hc)<;>cases hc
 rename_i h1
 exact ⟨_,rfl,h1⟩
theorem MW {code:Code} {x:cH} (hc:comp C nt.n code=some (.scope x)):∃ p,code=.scope p∧comp C nt.n p=some x:=by
 cases code<;>simp only [comp] at hc<;>(repeat' split at hc)<;>cases hc
 rename_i h1
 exact ⟨_,rfl,h1⟩
theorem X6 {code:Code} {d:Bool} {ord:List Nat} {items:List bh} (hc:comp C nt.n code=some (.region d ord items none)):∃ id ops,code=.region id ops d∧aY (xH C nt.n ops) ops.toList=some items ∧
  (d=true→C.P.follows .mixedOrders=true∧ord=(Region.before ops).toList∧vH ops ord=true):=by
 cases code
 case region id ops draw=>
  simp only [comp] at hc
  split at hc
  ·rename_i its pM
   cases draw with
   | true=>
    simp only [if_true] at hc
    split at hc
    ·rename_i bT
     simp only [ui] at bT
     simp only [Option.some.injEq,cH.region.injEq,and_true] at hc
     obtain ⟨rfl,rfl,rfl⟩:=hc
     exact ⟨id,ops,rfl,pM,fun _=>⟨bT.1,rfl,bT.2⟩⟩
    ·cases hc
   | false=>
    simp only [uk,if_false,Option.some.injEq,cH.region.injEq,and_true] at hc
    obtain ⟨rfl,rfl,rfl⟩:=hc
    exact ⟨id,ops,rfl,pM,fun h=>by cases h⟩
  ·cases hc
 all_goals (simp only [comp] at hc;(repeat' split at hc)<;>cases hc)
def kW (next:St→Prop) (K:Exit→St→Prop):Exit→St→Prop
 | .normal,st=>next st
 | e,st=>K e st
theorem F4 {x y:cH} {K:Exit→St→Prop} (h:dF C nt x (kW (dF C nt y K) K) st):dF C nt (.seq x y) K st:=by
 intro code hc g a w R hI
 obtain ⟨p,q,rfl,h1,h2⟩:=MS hc
 refine wpIn_seq (Code.wpIn_mono ?_ (h p h1 g a w R hI))
 rintro e a' w' ⟨bF,g',hk,R',E⟩
 cases e with
 | normal=>
  refine Code.wpIn_mono ?_ (hk q h2 g' a' w' R' (hI.eS E))
  rintro e a'' w'' ⟨Dh,g'',hk',MX,E'⟩
  exact ⟨Dh,g'',hk',MX,E.trans E'⟩
 | _=>exact ⟨bF,g',hk,R',E⟩
theorem yc {c:bD} {x y:cH} {K:Exit→St→Prop} (b:Bool) (hb:zd st.env c=.ak (.bool b)) (ht:b=true→dF C nt x K st) (hf:b=false→dF C nt y K st) :
  dF C nt (.cond c x y) K st:=by
 intro code hc g a w R hI
 obtain ⟨c',p,q,rfl,rfl,h1,h2⟩:=MT hc
 have hv:=kV R c'
 rw [hb] at hv
 refine wpIn_cond_split (vg hv) (fun h=>ht h p h1 g a w R hI) (fun h=>hf h q h2 g a w R hI)
def vi (id:Nat) (K:Exit→St→Prop):Exit→St→Prop
 | .exit id',st=>if id'=id then K .normal st else K (.exit id') st
 | e,st=>K e st
theorem Y5 {id:Nat} {x:cH} {K:Exit→St→Prop} (h:dF C nt x (vi id K) st):dF C nt (.block id x) K st:=by
 intro code hc g a w R hI
 obtain ⟨p,rfl,h1⟩:=MU hc
 refine wpIn_block (Code.wpIn_mono ?_ (h p h1 g a w R hI))
 rintro e a' w' ⟨bF,g',hk,R',E⟩
 cases e with
 | exit id'=>
  simp only [Exit.inBlock,vi] at hk ⊢
  split
  ·rename_i e;rw [if_pos e] at hk;exact ⟨bF,g',hk,R',E⟩
  ·rename_i e;rw [if_neg e] at hk;exact ⟨bF,g',hk,R',E⟩
 | _=>exact ⟨bF,g',hk,R',E⟩
def ZX (K:Exit→St→Prop):Exit→St→Prop
 | .goto _,_=>False
 | e,st=>K e st
theorem Y6 (hro:C.ro=none) {x:cH} {K:Exit→St→Prop} (h:dF C nt x (ZX K) st):dF C nt (.scope x) K st:=by
 intro code hc g a w R hI
 obtain ⟨p,rfl,h1⟩:=MW hc
 have h2:=h p h1 g a w R hI
 rw [hro] at h2 ⊢
 refine wpIn_wide.2 (wp_scope_straight (Code.wp_mono ?_ (wpIn_wide.1 h2)))
 rintro e a' w' ⟨bF,g',hk,R',E⟩
 cases e with
 | goto l=>exact hk.elim
 | _=>exact ⟨bF,g',hk,R',E⟩
theorem F5 {id:Nat} {K:Exit→St→Prop} (h:K (.exit id) st):dF C nt (.exit id) K st:=by
 intro code hc g a w R hI
 simp only [cH.erase] at hc
 cases code<;>simp only [comp] at hc<;>(repeat' split at hc)<;>cases hc
 exact wpIn_exit ⟨st,g,h,R,dN.refl _ _ _⟩
theorem F6 {K:Exit→St→Prop} (h:K .ret st):dF C nt .ret K st:=by
 intro code hc g a w R hI
 simp only [cH.erase] at hc
 cases code<;>simp only [comp] at hc<;>(repeat' split at hc)<;>cases hc
 exact wpIn_ret ⟨st,g,h,R,dN.refl _ _ _⟩
theorem WX {ord:List Nat} {items:List bh} {ks:Option (List Nat)} {K:Exit→St→Prop} (h:AO C items (fun bF=>K .normal (bF.keep ks)) st):dF C nt (.region false ord items ks) K st:=by
 intro code hc g a w R hI
 obtain ⟨id,ops,rfl,hm,_⟩:=X6 hc
 have:=MR (C:=C) (nt:=nt) (ops:=ops) (K:=fun e bF=>K e (bF.keep ks)) (g0:=g) (cL:=st) (w0:=w) ops.toList items hm st g a w h R hI (dN.refl _ _ _)
 refine Code.wpIn_mono ?_ (wpIn_region_list this)
 rintro e a' w' ⟨bF,g',hk,R',E⟩
 exact ⟨bF.keep ks,g',hk,R'.keep ks,by cases ks<;>exact E⟩
def ct (st bF:St):Prop:=∀ (C:Ctx) (nt:Fr) (g:Gh) (a:Act) (w:World),Rel C nt g st a w →
 ∃ g',Rel C nt g' bF a w∧∀ g0 cL w0,cL.next≤bF.next→dN g0 cL w0 g st w→dN g0 cL w0 g' bF w
theorem ct.refl (st:St):ct st st:=fun _ _ g _ _ R=>⟨g,R,fun _ _ _ _ E=>E⟩
theorem bY.inv.cE {g1:Gh} {nV:St} (h:C.inv g st w) (hE:∀ g0 cL w0,cL.next≤nV.next→dN g0 cL w0 g st w→dN g0 cL w0 g1 nV w) (hn:st.next≤nV.next):C.inv g1 nV w:=by
 unfold bY.inv at *
 split
 ·trivial
 ·rename_i g0 cL w0 e
  rw [e] at h
  refine hE g0 cL w0 ?_ h
  rcases uq cL.next with h0 | h0
  ·omega
  ·have h1:cL.next - 1 < st.next:=b9.next h (cL.next - 1) (by show cL.next - 1 < cL.next;omega)
   omega
theorem F7 {ac:cH} {K:Exit→St→Prop} {nV:St} (hw:ct st nV) (hn:st.next≤nV.next) (h:dF C nt ac K nV):dF C nt ac K st:=by
 intro code hc g a w R hI
 obtain ⟨g1,R1,hE⟩:=hw C nt g a w R
 have E1:=hE g st w hn (dN.refl _ _ _)
 refine Code.wpIn_mono ?_ (h code hc g1 a w R1 (hI.cE hE hn))
 rintro e a' w' ⟨bF,g',hk,R',E⟩
 exact ⟨bF,g',hk,R',E1.trans E⟩
theorem F8 {ι:Type} {x:cH} {K:Exit→St→Prop} (S:ι→St) (μ:ι→Nat) (i0:ι) (hn:∀ i,(S i0).next≤(S i).next) (h0:ct st (S i0)) (hn0:st.next≤(S i0).next)
  (round:∀ i,dF C nt x (kW (fun bF=>∃ j,μ j < μ i∧ct bF (S j)) K) (S i)):dF C nt (.loop x) K st:=by
 refine F7 h0 hn0 ?_
 intro code hc g a w R hI
 obtain ⟨p,rfl,h1⟩:=MV hc
 refine WV (fun n a' w'=>∃ i g',n=μ i∧Rel C nt g' (S i) a' w'∧dN g (S i0) w g' (S i) w') (μ i0) ⟨i0,g,rfl,R,dN.refl _ _ _⟩ ?_
 rintro n a1 w1 ⟨i,g1,rfl,R1,E1⟩
 refine Code.wpIn_mono ?_ (round i p h1 g1 a1 w1 R1 (hI.eS E1))
 rintro e a' w' ⟨bF,g',hk,R',E'⟩
 cases e with
 | normal=>
  obtain ⟨j,hlt,AQ⟩:=hk
  obtain ⟨g2,R2,Di⟩:=AQ C nt g' a' w' R'
  exact ⟨μ j,hlt,j,g2,rfl,R2,Di g (S i0) w (hn j) (E1.trans E')⟩
 | _=>exact ⟨bF,g',hk,R',E1.trans E'⟩
end
end
section
section
variable {C:Ctx} {nt:Fr} {g g':Gh} {h h':Nat→Option aI} {N N':Nat→Prop} {st bF:St} {a:Act} {w w':World}
theorem V9 (R:RH C g h N w) (Z':Nat→Nat) (hZ:∀ b,g.Z b≤Z' b) (hO:∀ i b sz af,g.ρ i=some b→h i=some (.af sz af)→af.length*sz≤Z' b) (hM:∀ i b es,g.ρ i=some b→h i=some (.map es)→0 < Z' b) :
  ∀ (d:Nat) (x:AV) (v:Value) (y:IV),zJ h d x=some y→RV C g h N w x v→RI Z' w y v:=by
 have up:∀ {y:IV} {v:Value},RI g.Z w y v→RI Z' w y v:=fun hr=>hr.mono hZ (lF.refl _ _)
 intro d
 induction d with
 | zero=>intro x v y hx;simp [zJ] at hx
 | succ d ih=>
  intro x v y hx hv
  cases hv with
  | ak z _ hr=>simp [zJ] at hx;subst hx;exact up hr
  | nil=>simp [zJ] at hx;subst hx;exact .nil
  | cA a cap=>simp [zJ] at hx;subst hx;exact vZ
  | aX i af _ hr _ _=>simp [zJ] at hx;subst hx;exact up hr
  | agg cs vs hl h1 hr=>
   simp only [zJ,ud] at hx
   obtain ⟨out,hout,rfl⟩:=hx
   obtain ⟨h2,h3⟩:=qm hout
   refine .agg out vs (by rw [h2];exact hl) h1 fun i c u hc hu => ?_
   have hlt:i < cs.length:=by rw [←h2];exact (ua.1 hc).1
   obtain ⟨c',h4,h5⟩:=h3 i cs[i] (by simp)
   rw [hc] at h4
   cases h4
   exact ih _ _ _ h5 (hr i cs[i] u (by simp) hu)
  | tuple cs vs hl hr=>
   simp only [zJ,ud] at hx
   obtain ⟨out,hout,rfl⟩:=hx
   obtain ⟨h2,h3⟩:=qm hout
   refine .tuple out vs (by rw [h2];exact hl) fun i c u hc hu => ?_
   have hlt:i < cs.length:=by rw [←h2];exact (ua.1 hc).1
   obtain ⟨c',h4,h5⟩:=h3 i cs[i] (by simp)
   rw [hc] at h4
   cases h4
   exact ih _ _ _ h5 (hr i cs[i] u (by simp) hu)
  | Zag i off len _ hni hone hp=>
   simp only [zJ] at hx
   split at hx
   ·rename_i sz af cR
    split at hx
    ·rename_i hle
     rw [ud] at hx
     obtain ⟨out,hout,rfl⟩:=hx
     obtain ⟨h2,h3⟩:=qm hout
     have gl:((af.drop off).take len).length=len:=by simp;omega
     have sx:out.length=len:=by rw [h2,gl]
     obtain ⟨_,h5⟩:=hp sz af cR
     rcases h5 with ⟨hn,hr,hval⟩ | ⟨b,cap,c,e,hb,hval,fQ,hw,hcap⟩
     ·subst hr
      have:len=0:=by simp at hle;omega
      have ho:out=[]:=List.eq_nil_of_length_eq_zero (by omega)
      subst ho
      rw [hval]
      exact .nil
     ·obtain ⟨hz,c',e',iA,hlen,hcells⟩:=R.obj i b _ hb cR
      have key:∀ (i':Nat) (row:List IV) (j:Nat) (x:IV),out[i']?=some row→row[j]?=some x→∃ u,c'[(off+i')*sz+j]?=some u∧u.oneCell'=true∧RI Z' w x u∧i' < len∧row.length=sz∧j < sz:=fun i' row j x hi hj=>by
       have hi':i' < len:=by rw [←sx];exact (ua.1 hi).1
       have fZ:((af.drop off).take len)[i']?=some (af[off+i']'(by omega)):=by
        rw [uz hi',uK];simp
       obtain ⟨row',cq,cg⟩:=h3 i' _ fZ
       rw [hi] at cq
       cases cq
       obtain ⟨rB,oe⟩:=qm cg
       have hj':j < (af[off+i']'(by omega)).length:=by rw [←rB];exact (ua.1 hj).1
       obtain ⟨x',hx1,hx2⟩:=oe j ((af[off+i']'(by omega))[j]) (uh hj')
       rw [hj] at hx1
       cases hx1
       have hrow:af[off+i']?=some (af[off+i']'(by omega)):=by simp
       obtain ⟨cv,h6,h7,h8⟩:=hcells (off+i') _ j _ hrow (uh hj')
       have hsz:=hlen (off+i') _ hrow
       exact ⟨cv,h6,h7,ih _ _ _ hx2 h8,hi',by rw [rB];exact hsz,by rw [←hsz];exact hj'⟩
      have pN:∀ (i':Nat) (row:List IV),out[i']?=some row→row.length=sz:=fun i' row hi=>by
       have hi':i' < len:=by rw [←sx];exact (ua.1 hi).1
       have fZ:((af.drop off).take len)[i']?=some (af[off+i']'(by omega)):=by
        rw [uz hi',uK];simp
       obtain ⟨row',cq,cg⟩:=h3 i' _ fZ
       rw [hi] at cq
       cases cq
       rw [(qm cg).1]
       exact hlen (off+i') _ (by simp)
      rw [hval,←sx]
      refine .slice out b (off*sz) cap sz (fun i' j=>c'.getD ((off+i')*sz+j) undef) (by omega) pN (fun i' row j x hi hj => ?_) (fun i' row j x hi hj => ?_) (fun i' row j x hi hj => ?_)
      ·obtain ⟨u,h6,h7,h8,h9,h10,h11⟩:=key i' row j x hi hj
       have nD:=hO i b sz af hb cR
       have:(off+i'+1)*sz≤af.length*sz:=Nat.mul_le_mul_right _ (by omega)
       simp only [uU] at this
       omega
      ·obtain ⟨u,h6,h7,h8,h9,h10,h11⟩:=key i' row j x hi hj
       have hu:c'.getD ((off+i')*sz+j) undef=u:=by
        have hlt:(off+i')*sz+j < c'.size:=(ub.1 h6).1
        simp [hlt] at h6 ⊢
        exact h6
       rw [hu,qS iA]
       refine ⟨?_,h7⟩
       rw [←h6]
       congr 1
       rw [uU]
      ·obtain ⟨u,h6,h7,h8,h9,h10,h11⟩:=key i' row j x hi hj
       have hu:c'.getD ((off+i')*sz+j) undef=u:=by
        have hlt:(off+i')*sz+j < c'.size:=(ub.1 h6).1
        simp [hlt] at h6 ⊢
        exact h6
       rw [hu]
       exact h8
    ·cases hx
   ·cases hx
  | map i _ hni hone hp=>
   simp only [zJ] at hx
   split at hx
   ·rename_i es cR
    rw [ud] at hx
    obtain ⟨out,hout,rfl⟩:=hx
    obtain ⟨h2,h3⟩:=qm hout
    obtain ⟨b,hb,hval⟩:=hp es cR
    obtain ⟨hz,cG,clock,hw,hl,hr⟩:=R.obj i b _ hb cR
    have key:∀ (j:Nat) (k x:IV),out[j]?=some (k,x)→∃ e,cG[j]?=some e∧IV.key k=some e.key∧RI Z' w x e.val:=fun j k x hj=>by
     have hlt:j < es.length:=by rw [←h2];exact (ua.1 hj).1
     obtain ⟨y,h4,h5⟩:=h3 j es[j] (uh hlt)
     rw [hj] at h4
     cases h4
     rw [ud] at h5
     obtain ⟨z,h6,h7⟩:=h5
     cases h7
     obtain ⟨e,e1,e2,e3⟩:=hr j es[j].1 es[j].2 (by rw [uh hlt])
     exact ⟨e,e1,e2,ih _ _ _ h6 e3⟩
    rw [hval]
    have iD:∀ (j:Nat) (e:MapEntry),cG[j]?=some e→(cG[j]?).getD {key:=undef,val:=undef,born:=0}=e:=fun j e h=>by rw [h];rfl
    refine .eZ out b cG clock (fun j=>(cG[j]?).getD {key:=undef,val:=undef,born:=0}) (hM i b es hb cR) hw (by rw [hl,h2]) (fun j k x hj => ?_) (fun j k x hj => ?_)
    ·obtain ⟨e,e1,e2,e3⟩:=key j k x hj
     rw [iD j e e1]
     exact ⟨e1,e2⟩
    ·obtain ⟨e,e1,e2,e3⟩:=key j k x hj
     rw [iD j e e1]
     exact e3
   ·cases hx
  | _=>simp [zJ] at hx
theorem F9:∀ (d:Nat) (x:AV) (v:Value) (y:IV),xr d x=true→zJ h d x=some y→RV C g h N w x v→RI g.Z w y v:=by
 intro d
 induction d with
 | zero=>intro x v y _ hx;simp [zJ] at hx
 | succ d ih=>
  intro x v y hm hx hv
  cases hv with
  | ak z _ hr=>simp [zJ] at hx;subst hx;exact hr
  | nil=>simp [zJ] at hx;subst hx;exact .nil
  | cA a cap=>simp [zJ] at hx;subst hx;exact vZ
  | aX i af _ hr _ _=>simp [zJ] at hx;subst hx;exact hr
  | agg cs vs hl h1 hr=>
   simp only [zJ,ud] at hx
   simp only [xr] at hm
   obtain ⟨out,hout,rfl⟩:=hx
   obtain ⟨h2,h3⟩:=qm hout
   refine .agg out vs (by rw [h2];exact hl) h1 fun i c u hc hu => ?_
   have hlt:i < cs.length:=by rw [←h2];exact (ua.1 hc).1
   obtain ⟨c',h4,h5⟩:=h3 i cs[i] (by simp)
   rw [hc] at h4
   cases h4
   exact ih _ _ _ (ue.1 hm _ (uo hlt)) h5 (hr i cs[i] u (by simp) hu)
  | tuple cs vs hl hr=>
   simp only [zJ,ud] at hx
   simp only [xr] at hm
   obtain ⟨out,hout,rfl⟩:=hx
   obtain ⟨h2,h3⟩:=qm hout
   refine .tuple out vs (by rw [h2];exact hl) fun i c u hc hu => ?_
   have hlt:i < cs.length:=by rw [←h2];exact (ua.1 hc).1
   obtain ⟨c',h4,h5⟩:=h3 i cs[i] (by simp)
   rw [hc] at h4
   cases h4
   exact ih _ _ _ (ue.1 hm _ (uo hlt)) h5 (hr i cs[i] u (by simp) hu)
  | Zag i off len _ hni hone hp=>simp [xr] at hm
  | map=>simp [xr] at hm
  | _=>simp [zJ] at hx
theorem wc (R:RH C g h N w) {Z':Nat→Nat} (hB:Below w.heap.size w w') (hZ:∀ b,b < w.heap.size→Z' b=g.Z b):b9 g h N w ⟨g.ρ,Z'⟩ h N w' where
 os:=hB.os
 tape:=hB.tape
 output:=hB.output
 size:=hB.size
 old:=fun b hb _=>⟨hB.block b hb,hZ b hb⟩
 own:=fun b hb=>.inl hb
 cr:=fun b=>by
  rcases uu b w.heap.size with hb | hb
  ·show g.Z b≤Z' b;rw [hZ b hb];exact uj _
  ·rcases uq (g.Z b) with h0 | h0
   ·omega
   ·have:=R.ed b h0;omega
 cell:=lF.heap fun b hz=>hB.block b (R.ed b hz)
 shape:=fun b c e hb=>⟨c,(hB.block b (qd hb)).trans hb,rfl⟩
 next:=fun _ h=>h
 ep:=fun i b hb _ _ _ _=>.inl hb
 cI:=fun i hb _ _ _ _=>.inl hb
 af:=fun i _ sz af h=>⟨af,h,rfl⟩
 cV:=fun i _ sz len h=>⟨len,h,uj _⟩
 maps:=fun i _ es h=>⟨es,h⟩
 fH:=fun i _ ll RR s pe h=>⟨s,pe,h⟩
theorem kX (R:RH C g h N w) {Z':Nat→Nat} (hB:Below w.heap.size w w') (hZ:∀ b,b < w.heap.size→Z' b=g.Z b) (hlt:∀ b,0 < Z' b→b < w'.heap.size):RH C ⟨g.ρ,Z'⟩ h N w' where
 inj:=R.inj
 lt:=fun i b hb=>⟨uf (R.lt i b hb).1 hB.size,(R.lt i b hb).2⟩
 key:=R.key
 obj:=fun i b o hb ho=>(R.obj i b o hb ho).keep (wc R hB hZ) (hB.block b (R.lt i b hb).1) (hZ b (R.lt i b hb).1)
 cP:=R.cP
 ed:=hlt
 fix:=R.fix.eS (wc R hB hZ)
def xQ:IV→Bool
 | .slice _ | .iface _ _ | .dl | .eZ _=>false
 | .agg cs | .tuple cs=>cs.all fun c=>match c with | .bool _ | .int _ _ | .str _=>true | _=>false
 | _=>true
theorem Ga {Z Z':Nat→Nat} {x:IV} {v:Value} (hf:xQ x=true) (hr:RI Z w x v):RI Z' w' x v:=by
 have one:∀ {c:IV} {u:Value},(match c with | .bool _ | .int _ _ | .str _=>true | _=>false)=true→RI Z w c u→RI Z' w' c u:=fun {c u} hc hr=>by
  cases hr<;>first | exact .bool _ | exact .int _ _ | exact .str _ | (simp at hc)
 cases hr with
 | bool b=>exact .bool b
 | int k n=>exact .int k n
 | str s=>exact .str s
 | nil=>simp [xQ] at hf
 | empty=>simp [xQ] at hf
 | slice=>simp [xQ] at hf
 | iface=>simp [xQ] at hf
 | dl=>simp [xQ] at hf
 | eZ=>simp [xQ] at hf
 | agg cs vs hl h1 hr=>exact .agg cs vs hl h1 fun i c u hc hu=>one (ue.1 hf c (uc hc)) (hr i c u hc hu)
 | tuple cs vs hl hr=>exact .tuple cs vs hl fun i c u hc hu=>one (ue.1 hf c (uc hc)) (hr i c u hc hu)
theorem bU.pure {f:Nat} {args:List AV} {heap:List (Nat×aI)} {next d:Nat} {K:AV→List (Nat×aI)→Nat→Prop} {dH:List IV} {r:IV} (hp:aO C f dH r)
  (hm:(args.all (xr d))=true) (hx:aY (zJ (zc heap) d) args=some dH) (hK:K (.ak r) heap next):bU C f args heap next K:=by
 refine ⟨hp.1,fun g w vs R hv => ?_⟩
 obtain ⟨h1,h2⟩:=qm hx
 refine (hp.2 g.Z w vs R.ed ⟨R.fix.1,R.fix.2.1⟩ ⟨by rw [h1];exact hv.1,fun j c u hc hu => ?_⟩).mono ?_
 ·have hlt:j < args.length:=by rw [←h1];exact (ua.1 hc).1
  obtain ⟨c',h3,h4⟩:=h2 j args[j] (by simp)
  rw [hc] at h3
  cases h3
  exact F9 d _ _ _ (ue.1 hm _ (uo hlt)) h4 (hv.2 j args[j] u (by simp) hu)
 ·rintro e w' ⟨v,Z',rfl,hr,hZ,hlt,hB⟩
  exact ⟨v,.ak r,heap,next,⟨g.ρ,Z'⟩,rfl,hK,wc R hB hZ,kX R hB hZ hlt,.ak _ _ hr⟩
theorem bU.ow {f:Nat} {args:List AV} {heap:List (Nat×aI)} {next d:Nat} {K:AV→List (Nat×aI)→Nat→Prop} {dH:List IV} {r:IV} (hp:aO C f dH r)
  (hx:aY (zJ (zc heap) d) args=some dH) (hf:xQ r=true) (hK:K (.ak r) heap next):bU C f args heap next K:=by
 refine ⟨hp.1,fun g w vs R hv => ?_⟩
 obtain ⟨h1,h2⟩:=qm hx
 let Z1:Nat→Nat:=fun b=>match w.heap[b]? with
  | some (.cells c _ _)=>max (g.Z b) c.size
  | some (.map _ _)=>max (g.Z b) 1
  | _=>g.Z b
 have iH:∀ b,g.Z b≤Z1 b:=fun b=>by
  show g.Z b≤(match w.heap[b]? with | some (.cells c _ _)=>max (g.Z b) c.size | some (.map _ _)=>max (g.Z b) 1 | _=>g.Z b)
  split
  ·exact ux _ _
  ·exact ux _ _
  ·exact uj _
 have sM:∀ b,0 < Z1 b→b < w.heap.size:=fun b hb=>by
  rcases uu b w.heap.size with h | h
  ·exact h
  ·have hn:w.heap[b]?=none:=ul h
   have:Z1 b=g.Z b:=by show (match w.heap[b]? with | some (.cells c _ _)=>max (g.Z b) c.size | some (.map _ _)=>max (g.Z b) 1 | _=>g.Z b)=g.Z b;rw [hn]
   exact R.ed b (by omega)
 have hO:∀ i b sz af,g.ρ i=some b→zc heap i=some (.af sz af)→af.length*sz≤Z1 b:=fun i b sz af hb ho=>by
  obtain ⟨hz,c,e,hc,hlen,hcells⟩:=R.obj i b _ hb ho
  have hZ:Z1 b=max (g.Z b) c.size:=by show (match w.heap[b]? with | some (.cells c _ _)=>max (g.Z b) c.size | some (.map _ _)=>max (g.Z b) 1 | _=>g.Z b)=_;rw [hc]
  rw [hZ]
  refine uS ?_ (uw _ _)
  rcases uq (af.length*sz) with h0 | h0
  ·omega
  ·have hs:0 < sz:=ur fun e=>by subst e;simp at h0
   have hr:0 < af.length:=ur fun e=>by rw [e] at h0;simp at h0
   have hrow:af[af.length - 1]?=some (af[af.length - 1]'(by omega)):=by simp
   have hl:=hlen _ _ hrow
   obtain ⟨cv,h3,_⟩:=hcells (af.length - 1) _ (sz - 1) ((af[af.length - 1]'(by omega))[sz - 1]'(by omega)) hrow (by simp)
   have hlt:=(ub.1 h3).1
   have:(af.length - 1)*sz+sz=af.length*sz:=by
    rw [←uT];congr 1;omega
   omega
 have hM:∀ i b es,g.ρ i=some b→zc heap i=some (.map es)→0 < Z1 b:=fun i b es hb ho=>by
  obtain ⟨hz,cG,clock,hw,_⟩:=R.obj i b _ hb ho
  have hZ:Z1 b=max (g.Z b) 1:=by show (match w.heap[b]? with | some (.cells c _ _)=>max (g.Z b) c.size | some (.map _ _)=>max (g.Z b) 1 | _=>g.Z b)=_;rw [hw]
  rw [hZ]
  exact uf uO (uw _ _)
 refine (hp.2 Z1 w vs sM ⟨R.fix.1,R.fix.2.1⟩ ⟨by rw [h1];exact hv.1,fun j c u hc hu => ?_⟩).mono ?_
 ·have hlt:j < args.length:=by rw [←h1];exact (ua.1 hc).1
  obtain ⟨c',h3,h4⟩:=h2 j args[j] (by simp)
  rw [hc] at h3
  cases h3
  exact V9 R Z1 iH hO hM d _ _ _ h4 (hv.2 j args[j] u (by simp) hu)
 ·rintro e w' ⟨v,Z',rfl,hr,hZ,hlt,hB⟩
  refine ⟨v,.ak r,heap,next,g,rfl,hK,wc (Z':=g.Z) R hB (fun _ _=>rfl),kX (Z':=g.Z) R hB (fun _ _=>rfl) (fun b hb=>uf (R.ed b hb) hB.size),.ak _ _ (Ga hf hr)⟩
theorem bU.mono {f:Nat} {args:List AV} {heap:List (Nat×aI)} {next:Nat} {K K':AV→List (Nat×aI)→Nat→Prop} (hk:∀ r h n,K r h n→K' r h n) (hc:bU C f args heap next K):bU C f args heap next K':=
 ⟨hc.1,fun g w vs R hv=>(hc.2 g w vs R hv).mono fun e w' ⟨v,r,heap',next',g',h1,h2,h3⟩=>⟨v,r,heap',next',g',h1,hk _ _ _ h2,h3⟩⟩
end
end
section
def ju:Nat→List AV→List (Nat×AV)
 | _,[]=>[]
 | i,x::xs=>(i,x)::ju (i+1) xs
def wF (st:St):dR→Option AV
 | .tmp t=>zc st.env t
 | .cell t ag n=>match ap (.load ag n (.t t)) (zd st.env) (zc st.heap) 0 with
  | some (r,_)=>some r
  | none=>none
def jI (rs:List dR) (st:St):Option AV:=match rs with
 | [r]=>wF st r
 | rs=>match aY (wF st) rs with
  | some xs=>some (.tuple xs)
  | none=>none
section
variable {C:Ctx} {nt:Fr} {g g':Gh} {h h':Nat→Option aI} {N N':Nat→Prop} {st bF:St} {a:Act} {w w':World}
theorem WY:∀ (args:List AV) (i t:Nat) (x:AV),zc (ju i args) t=some x→i≤t∧args[t - i]?=some x
 | [],i,t,x,h=>by simp [ju,zc] at h
 | y::ys,i,t,x,h=>by
  simp only [ju,zc] at h
  split at h
  ·rename_i e;subst e;cases h;simp
  ·obtain ⟨h1,h2⟩:=WY ys (i+1) t x h
   refine ⟨by omega,?_⟩
   rw [show t - i=(t - (i+1))+1 by omega]
   simpa using h2
theorem MY (R:Rel C nt g st a w) {rv:ResultVar} {ar:dR} (hc:ya C rv=some ar) {x:AV} (hx:wF st ar=some x) :
  ∃ v,((match rv with | .tmp t=>pure (a.tmps.getD t undef) | .cell ad t=>do loadVar t (←asAddr (a.tmps.getD ad undef)):Sem Value)).run C.P w=.ok v w∧RV C g (zc st.heap) (· < st.next) w x v:=by
 cases rv with
 | tmp t=>
  simp only [ya,Option.some.injEq] at hc
  subst hc
  exact ⟨_,rfl,R.env.slot t x hx⟩
 | cell ad t=>
  simp only [ya] at hc
  split at hc
  ·rename_i ag n h1 h2
   cases hc
   simp only [wF] at hx
   split at hx
   ·rename_i r aQ he
    cases hx
    have hv:RV C g (zc st.heap) (· < st.next) w (zd st.env (.t ad)) (a.tmps.getD ad undef):=kV R (.tmp ad)
    obtain ⟨v,h3,_,h4⟩:=YS h1 h2 R.heap hv he
    refine ⟨v,?_,h4⟩
    have AR:∃ p,a.tmps.getD ad undef=.pointer (some p):=by
     generalize a.tmps.getD ad undef=q at h3
     cases q with
     | pointer p=>
      cases p with
      | none=>simp [Instr.loadAt,Instr.sureAddr] at h3
      | some p=>exact ⟨p,rfl⟩
     | _=>simp [Instr.loadAt,Instr.sureAddr] at h3
    obtain ⟨p,hp⟩:=AR
    rw [hp] at h3
    show ((do loadVar t (←asAddr (a.tmps.getD ad undef)):Sem Value)).run C.P w=.ok v w
    rw [hp]
    simpa [Instr.loadAt,Instr.sureAddr,asAddr] using h3
   ·cases hx
  ·cases hc
theorem KY (R:Rel C nt g st a w) {fn:Func} {rs:List dR} (hc:aY (ya C) fn.results.toList=some rs) {x:AV} (hx:jI rs st=some x) :
  ∃ v,(results fn a.tmps).run C.P w=.ok v w∧RV C g (zc st.heap) (· < st.next) w x v:=by
 obtain ⟨hl,hg⟩:=qm hc
 have many:∀ (l:List ResultVar) (rs:List dR) (xs:List AV),aY (ya C) l=some rs→aY (wF st) rs=some xs →
   ∃ vs:List Value,(l.mapM (fun rv=>(match rv with | .tmp t=>pure (a.tmps.getD t undef) | .cell ad t=>do loadVar t (←asAddr (a.tmps.getD ad undef)):Sem Value))).run C.P w=.ok vs w∧vs.length=xs.length ∧
    ∀ (j:Nat) (y:AV) (u:Value),xs[j]?=some y→vs[j]?=some u→RV C g (zc st.heap) (· < st.next) w y u:=by
  intro l
  induction l with
  | nil=>
   intro rs xs h1 h2
   simp [aY] at h1;subst h1
   simp [aY] at h2;subst h2
   exact ⟨[],by simp,rfl,fun j y u hj=>by simp at hj⟩
  | cons rv l ih=>
   intro rs xs h1 h2
   simp only [aY] at h1
   split at h1
   ·rename_i ar har
    split at h1
    ·rename_i rs' nF
     cases h1
     simp only [aY] at h2
     split at h2
     ·rename_i y hy
      split at h2
      ·rename_i ys hys
       cases h2
       obtain ⟨v,h3,h4⟩:=MY R har hy
       obtain ⟨vs,h5,h6,h7⟩:=ih rs' ys nF hys
       refine ⟨v::vs,?_,by simp [h6],fun j y' u hj hu => ?_⟩
       ·simp only [List.mapM_cons,Sem.run_bind,h3,Result.andThen_ok,h5,Sem.run_pure]
       ·cases j with
        | zero=>simp at hj hu;subst hj;subst hu;exact h4
        | succ j=>exact h7 j y' u (by simpa using hj) (by simpa using hu)
      ·cases h2
     ·cases h2
    ·cases h1
   ·cases h1
 have hrun:∀ vs:List Value,(fn.results.toList.mapM (fun rv=>(match rv with | .tmp t=>pure (a.tmps.getD t undef) | .cell ad t=>do loadVar t (←asAddr (a.tmps.getD ad undef)):Sem Value))).run C.P w=.ok vs w →
   (results fn a.tmps).run C.P w=.ok (if h:vs.toArray.size=1 then vs.toArray[0] else .tuple vs.toArray) w:=fun vs hvs=>by
  have key:∀ (F:ResultVar→Sem Value),(∀ rv,F rv=(match rv with | .tmp t=>pure (a.tmps.getD t undef) | .cell ad t=>do loadVar t (←asAddr (a.tmps.getD ad undef)):Sem Value))→(fn.results.toList.mapM F).run C.P w=.ok vs w:=fun F hF=>by
   rw [funext hF];exact hvs
  unfold results
  rw [Array.mapM_eq_mapM_toList]
  simp only [Sem.run_bind,Sem.run_map]
  rw [key _ (fun rv=>by cases rv<;>rfl)]
  rfl
 unfold jI at hx
 split at hx
 ·rename_i ar
  have h1:aY (wF st) [ar]=some [x]:=by simp [aY,hx]
  obtain ⟨vs,h2,h3,h4⟩:=many fn.results.toList [ar] [x] hc h1
  obtain ⟨v,rfl⟩:=uC.1 h3
  exact ⟨v,by rw [hrun _ h2];rfl,h4 0 x v rfl rfl⟩
 ·rename_i hne
  split at hx
  ·rename_i xs hxs
   cases hx
   obtain ⟨vs,h2,h3,h4⟩:=many fn.results.toList rs xs hc hxs
   have hxl:=(qm hxs).1
   have hn1:¬ vs.toArray.size=1:=by
    intro eW
    have:rs.length=1:=by rw [←hxl,←h3];simpa using eW
    obtain ⟨ar,rfl⟩:=uC.1 this
    exact hne ar rfl
   exact ⟨.tuple vs.toArray,by rw [hrun _ h2,dif_neg hn1],.tuple xs vs h3.symm h4⟩
  ·cases hx
theorem kY {f : Nat} {F : dM} (hF : qM C f = some F.erase) : ∃ fn code, C.P.funcs[C.eC f]? = some fn ∧ fn.body = some code ∧ (fn.name == "runtime.NumGoroutine") = false ∧ fn.ntmps = F.nt ∧
  comp C F.nt code=some F.body.erase∧aY (ya C) fn.results.toList=some F.results:=by
 unfold qM at hF
 split at hF
 ·rename_i fn hfn
  split at hF
  ·rename_i code lN
   split at hF
   ·rename_i ac rs hac sw
    split at hF
    ·cases hF
    ·rename_i hname
     simp only [Option.some.injEq,dM.erase,dM.mk.injEq] at hF
     obtain ⟨h1,h2,h3⟩:=hF
     subst h2
     subst h3
     exact ⟨fn,code,hfn,lN,by simpa using hname,h1,by rw [←h1];exact hac,sw⟩
   ·cases hF
  ·cases hF
 ·cases hF
def Dj (F:dM) (K:AV→List (Nat×aI)→Nat→Prop):Exit→St→Prop:=fun e st=>(e=.ret∨e=.normal)∧∃ r,jI F.results st=some r∧K r st.heap st.next
structure iI (Ds:List Nat) (w w2:World):Prop where
 os:w2.os=w.os
 tape:w2.tape=w.tape
 output:w2.output=w.output
 size:w2.heap.size=w.heap.size
 keep:∀ b,b ∉ Ds→w2.heap[b]?=w.heap[b]?
 done:∀ D,D∈Ds→∃ x,w2.heap[D]?=some (.deferred x)
 was:∀ D,D∈Ds→∃ x,w.heap[D]?=some (.deferred x)
theorem iI.block {Ds:List Nat} {w w2:World} (S:iI Ds w w2) {b:Nat} {o:Obj} (h:w.heap[b]?=some o) (ho:∀ x,o≠.deferred x):w2.heap[b]?=some o:=by
 by_cases hb:b∈Ds
 ·obtain ⟨x,hx⟩:=S.was b hb
  rw [h] at hx;cases hx;exact absurd rfl (ho x)
 ·rw [S.keep b hb];exact h
theorem iI.cell {Ds:List Nat} {w w2:World} (S:iI Ds w w2) (p:Addr):w2.cell? p=w.cell? p:=by
 by_cases hb:p.block∈Ds
 ·obtain ⟨x,hx⟩:=S.was _ hb
  obtain ⟨y,hy⟩:=S.done _ hb
  simp only [World.cell?,hx,hy]
 ·simp only [World.cell?,S.keep _ hb]
theorem iI.Dk {Ds:List Nat} {w w2:World} (S:iI Ds w w2) (Z:Nat→Nat):lF Z w w2:=⟨fun b o _=>S.cell _,fun b cG clock _ hb=>(S.block hb (by simp)).trans hb.symm⟩
theorem RV.shut {Ds:List Nat} {w w2:World} (S:iI Ds w w2) {x:AV} {v:Value} (hv:RV C g h N w x v):RV C g h N w2 x v:=by
 induction hv with
 | top v=>exact .top v
 | undef=>exact .undef
 | ak x v hr=>exact .ak x v (hr.mono (fun _=>uj _) (S.Dk _))
 | nil=>exact .nil
 | cA a cap=>exact .cA a cap
 | aX id af v hr hid ht=>
  refine .aX id af v (hr.mono (fun _=>uj _) (S.Dk _)) hid fun sz len hg => ?_
  obtain ⟨h1,h2,h3⟩:=ht sz len hg
  refine ⟨h1,h2,fun e => ?_⟩
  rcases h3 e with h4 | ⟨b,cap,c,e',h5,h6,h7,h8⟩
  ·exact .inl h4
  ·exact .inr ⟨b,cap,c,e',h5,h6,S.block h7 (by simp),h8⟩
 | cD cells b off cv hz hc hr=>
  exact .cD cells b off cv hz (fun j c h1=>⟨(S.cell _).trans (hc j c h1).1,(hc j c h1).2⟩) (fun j c h1=>(hr j c h1).mono (fun _=>uj _) (S.Dk _))
 | ptr id row off v hid h1 hp=>exact .ptr id row off v hid h1 hp
 | Zag id off len v hid h1 hp=>
  refine .Zag id off len v hid h1 fun sz af hg => ?_
  obtain ⟨h2,h3⟩:=hp sz af hg
  refine ⟨h2,?_⟩
  rcases h3 with h4 | ⟨b,cap,c,e',h5,h6,h7,h8,h9⟩
  ·exact .inl h4
  ·exact .inr ⟨b,cap,c,e',h5,h6,h7,S.block h8 (by simp),h9⟩
 | func f first bC vf vc hlf hlc hf hc Az CU=>exact .func f first bC vf vc hlf hlc Az CU
 | map id v hid h1 hp=>exact .map id v hid h1 hp
 | agg cs vs hl h1 hr ih=>exact .agg cs vs hl h1 ih
 | tuple cs vs hl hr ih=>exact .tuple cs vs hl ih
 | eI l id hid hp=>exact .eI l id hid hp
theorem RH.shut {Ds:List Nat} {w w2:World} (S:iI Ds w w2) (F:C.Ax g w2) (R:RH C g h N w):RH C g h N w2 where
 inj:=R.inj
 lt:=fun i b hb=>⟨by rw [S.size];exact (R.lt i b hb).1,(R.lt i b hb).2⟩
 key:=R.key
 obj:=fun i b o hb ho=>by
  have H:=R.obj i b o hb ho
  cases o with
  | af sz af=>
   obtain ⟨h0,c,e,h1,h2,h3⟩:=H
   refine ⟨h0,c,e,S.block h1 (by simp),h2,fun i row j x hi hj => ?_⟩
   obtain ⟨cv,h4,h5,h6⟩:=h3 i row j x hi hj
   exact ⟨cv,h4,h5,h6.shut S⟩
  | bf sz len=>obtain ⟨c,e,h1,h2,h3⟩:=H;exact ⟨c,e,S.block h1 (by simp),h2,h3⟩
  | map es=>
   obtain ⟨h0,cG,clock,h1,h2,h3⟩:=H
   refine ⟨h0,cG,clock,S.block h1 (by simp),h2,fun i k x hi => ?_⟩
   obtain ⟨e,h4,h5,h6⟩:=h3 i k x hi
   exact ⟨e,h4,h5,h6.shut S⟩
  | dead=>trivial
  | lp l R s pe=>exact ⟨H.1,H.2.1,S.block H.2.2 (by simp)⟩
 cP:=R.cP
 ed:=fun b hb=>by rw [S.size];exact R.ed b hb
 fix:=F
theorem b9.shut {Ds:List Nat} {w0 w w2:World} (S:iI Ds w w2) (hD:∀ D∈Ds,w0.heap.size≤D) (E:b9 g h N w0 g' h' N' w):b9 g h N w0 g' h' N' w2 where
 os:=S.os.trans E.os
 tape:=S.tape.trans E.tape
 output:=S.output.trans E.output
 size:=by rw [S.size];exact E.size
 old:=fun b hb ho=>⟨(S.keep b (fun hm=>by have:=hD b hm;omega)).trans (E.old b hb ho).1,(E.old b hb ho).2⟩
 own:=E.own
 cr:=E.cr
 cell:=⟨fun b o ho=>(S.cell _).trans (E.cell.c b o ho),fun b cG clock hz hb=>by
  have h1:=E.cell.m b cG clock hz hb
  rw [hb] at h1 ⊢
  exact S.block h1 (by simp)⟩
 shape:=fun b c e hb=>by
  obtain ⟨c',h1,h2⟩:=E.shape b c e hb
  exact ⟨c',S.block h1 (by simp),h2⟩
 next:=E.next
 ep:=E.ep
 cI:=E.cI
 af:=E.af
 cV:=E.cV
 maps:=E.maps
 fH:=E.fH
theorem Jy {P:Program} {fn:Func} {tmps:Array Value} {R:Ending→World→Prop}:∀ (Ds:List Nat) (w:World),Ds.Nodup→(∀ D∈Ds,w.heap[D]?=some (.deferred (some []))) →
  (∀ w2,iI Ds w w2→∃ v,(results fn tmps).run P w2=.ok v w2∧R (.returned v) w2)→LeavesInM Fence.wide 0 P fn tmps R (Ds.map fun D=>{target:=.collected D,args := #[]}) .returning w
 | [],w,_,_,h=>h w ⟨rfl,rfl,rfl,rfl,fun _ _=>rfl,fun _ h=>(by cases h),fun _ h=>(by cases h)⟩
 | D::Ds,w,hn,hD,h=>by
  obtain ⟨n1,n2⟩:=List.nodup_cons.1 hn
  have h0:=hD D (by simp)
  have hlt:D < w.heap.size:=(ub.1 h0).1
  refine ⟨by simp,.inl ⟨D,w.putObj D (.deferred none),rfl,run_takeDeferred h0,?_⟩⟩
  have ni:∀ E∈Ds,(w.putObj D (.deferred none)).heap[E]?=some (.deferred (some [])):=fun E hE=>by
   have hne:E≠D:=fun e=>n1 (by rw [←e];exact hE)
   rw [World.putObj_heap_other hne];exact hD E (by simp [hE])
  refine Jy Ds _ n2 ni fun w2 S=>h w2 ⟨S.os,S.tape,S.output,by rw [S.size];simp,fun b hb => ?_,fun E hE => ?_,fun E hE=>⟨_,hD E hE⟩⟩
  ·simp only [uA,not_or] at hb
   rw [S.keep b hb.2,World.putObj_heap_other hb.1]
  ·by_cases hm:E∈Ds
   ·exact S.done E hm
   ·rcases uA.1 hE with rfl | hE
    ·exact ⟨none,by rw [S.keep _ hm];exact World.putObj_heap_same hlt⟩
    ·exact absurd hE hm
theorem X7 {C:bY} (hro:C.ro=none) {f:Nat} {F:dM} (hF:qM C f=some F.erase) {args:List AV} {heap:List (Nat×aI)} {next:Nat} {K:AV→List (Nat×aI)→Nat→Prop} (hn:args.length≤F.nt)
  (h:∀ B,dF C ⟨F.nt,B⟩ F.body (Dj F K) {env:=ju 0 args,heap:=heap,next:=next}) {g:Gh} {w:World} {vs:List Value} (R:RH C g (zc heap) (· < next) w) (hv:nH C g (zc heap) (· < next) w args vs) (hI:C.inv g ⟨[],heap,next⟩ w) :
  Calls C.P (C.eC f) vs.toArray w fun e w'=>∃ v r heap' next' g',e=.returned v∧K r heap' next' ∧
   b9 g (zc heap) (· < next) w g' (zc heap') (· < next') w'∧RH C g' (zc heap') (· < next') w'∧RV C g' (zc heap') (· < next') w' r v:=by
 obtain ⟨fn,code,hfn,lN,hname,hnt,hcomp,hres⟩:=kY hF
 refine callsIn_wide.1 (callsIn_of_wp_marks (n:=0) hfn lN trivial ?_)
 have hsz:vs.length≤F.nt:=by rw [←hv.1];exact hn
 have R0:Rel C ⟨F.nt,w.heap.size⟩ g {env:=ju 0 args,heap:=heap,next:=next} {tmps:=vs.toArray++um (fn.ntmps - vs.toArray.size) undef,defers:=[]} w:=by
  refine ⟨⟨by simp [hnt];omega,Marks.nil _ (uj _),fun t x hx => ?_⟩,R⟩
  obtain ⟨_,h2⟩:=WY args 0 t x hx
  simp only [uR] at h2
  have hlt:t < vs.length:=by rw [←hv.1];exact (ua.1 h2).1
  have dI:(vs.toArray++um (fn.ntmps - vs.toArray.size) undef).getD t undef=vs[t]:=by
   simp [Array.getElem?_append,hlt]
  show RV C g (zc heap) (· < next) w x ((vs.toArray++um (fn.ntmps - vs.toArray.size) undef).getD t undef)
  rw [dI]
  exact hv.2 t x vs[t] h2 (by simp)
 have hb:=h w.heap.size code hcomp g _ w R0 hI
 rw [hro] at hb
 refine Code.wpIn_mono ?_ hb
 rintro e a' w' ⟨bF,g',⟨he,r,hr,hK⟩,R',E⟩
 have hD:=R'.env.defers
 obtain ⟨iC,Ds,o8,hd2,sN⟩:=hD
 have key:LeavesInM Fence.wide 0 C.P fn a'.tmps (fun e w'=>∃ v r heap' next' g',e=.returned v∧K r heap' next'∧b9 g (zc heap) (· < next) w g' (zc heap') (· < next') w'∧RH C g' (zc heap') (· < next') w'∧RV C g' (zc heap') (· < next') w' r v) a'.defers .returning w':=by
  rw [o8]
  refine Jy Ds w' hd2 (fun D hD=>(sN D hD).2.1) fun w2 S => ?_
  have R2:Rel C ⟨F.nt,w.heap.size⟩ g' bF {a' with defers:=[]} w2:=⟨⟨R'.env.size,Marks.nil _ (by rw [S.size];exact iC),fun t x hx=>(R'.env.slot t x hx).shut S⟩,R'.heap.shut S (R.fix.eS (E.shut S (fun D hD=>(sN D hD).1)))⟩
  obtain ⟨v,h1,h2⟩:=KY R2 hres hr
  exact ⟨v,h1,v,r,bF.heap,bF.next,g',rfl,hK,E.shut S (fun D hD=>(sN D hD).1),R2.heap,h2⟩
 rcases he with rfl | rfl
 ·exact key
 ·exact key
theorem bU.enter {C:Ctx} {f:Nat} {F:dM} (hF:qM C f=some F.erase) {args:List AV} {heap:List (Nat×aI)} {next:Nat} {K:AV→List (Nat×aI)→Nat→Prop} (hn:args.length≤F.nt)
  (h:∀ B,dF C.plain ⟨F.nt,B⟩ F.body (Dj F K) {env:=ju 0 args,heap:=heap,next:=next}):bU C f args heap next K:=by
 obtain ⟨fn,code,hfn,lN,hname,_⟩:=kY hF
 exact ⟨⟨fn,hfn,by simp [lN],hname⟩,fun g w vs R hv=>X7 (C:=C.plain) rfl hF hn h R hv trivial⟩
theorem aO.of {f:Nat} {args:List IV} {r:IV} {d:Nat} (hc:bU C f (args.map .ak) [] 0 fun x heap _=>zJ (zc heap) d x=some r):aO C f args r:=by
 refine ⟨hc.1,fun Z w vs hz hf hv => ?_⟩
 have R:RH C ⟨fun _=>none,Z⟩ (zc []) (· < 0) w:=⟨fun i j b h=>(by cases h),fun i b h=>(by cases h),fun i o h=>(by simp [zc] at h),fun i b o h=>(by cases h),fun i sz len h=>(by simp [zc] at h),hz,hf.1,hf.2,fun b hb ⟨i,hi⟩=>(by cases hi)⟩
 refine (hc.2 _ w vs R ⟨by simpa using hv.1,fun j x u hx hu => ?_⟩).mono ?_
 ·simp only [ut,ud] at hx
  obtain ⟨y,hy,rfl⟩:=hx
  exact .ak _ _ (hv.2 j y u hy hu)
 ·rintro e w' ⟨v,x,heap',next',g',rfl,hK,E,R',hx⟩
  have nk:∀ b,¬ wq (⟨fun _=>none,Z⟩:Gh) b:=fun b ⟨i,hi⟩=>(by cases hi)
  let Z1:Nat→Nat:=fun b=>if b < w.heap.size then Z b else match w'.heap[b]? with
   | some (.cells c _ _)=>max (g'.Z b) c.size
   | some (.map _ _)=>max (g'.Z b) 1
   | _=>g'.Z b
  have iH:∀ b,g'.Z b≤Z1 b:=fun b=>by
   show g'.Z b≤(if b < w.heap.size then Z b else match w'.heap[b]? with | some (.cells c _ _)=>max (g'.Z b) c.size | some (.map _ _)=>max (g'.Z b) 1 | _=>g'.Z b)
   split
   ·rename_i hb;rw [(E.old b hb (nk b)).2];exact uj _
   ·split
    ·exact ux _ _
    ·exact ux _ _
    ·exact uj _
  have hO:∀ i b sz af,g'.ρ i=some b→zc heap' i=some (.af sz af)→af.length*sz≤Z1 b:=fun i b sz af hb ho=>by
   obtain ⟨hz,c,e,hc,hlen,hcells⟩:=R'.obj i b _ hb ho
   have hnew:¬ b < w.heap.size:=by
    rcases E.own b ⟨i,hb⟩ with h | h
    ·exact absurd h (nk b)
    ·omega
   have hZ:Z1 b=max (g'.Z b) c.size:=by
    show (if b < w.heap.size then Z b else match w'.heap[b]? with | some (.cells c _ _)=>max (g'.Z b) c.size | some (.map _ _)=>max (g'.Z b) 1 | _=>g'.Z b)=_
    rw [if_neg hnew,hc]
   rw [hZ]
   refine uS ?_ (uw _ _)
   rcases uq (af.length*sz) with h0 | h0
   ·omega
   ·have hs:0 < sz:=ur fun e=>by subst e;simp at h0
    have hr:0 < af.length:=ur fun e=>by rw [e] at h0;simp at h0
    have hrow:af[af.length - 1]?=some (af[af.length - 1]'(by omega)):=by simp
    have hl:=hlen _ _ hrow
    obtain ⟨cv,h3,_⟩:=hcells (af.length - 1) _ (sz - 1) ((af[af.length - 1]'(by omega))[sz - 1]'(by omega)) hrow (by simp)
    have hlt:=(ub.1 h3).1
    have:(af.length - 1)*sz+sz=af.length*sz:=by
     rw [←uT];congr 1;omega
    omega
  have hM:∀ i b es,g'.ρ i=some b→zc heap' i=some (.map es)→0 < Z1 b:=fun i b es hb ho=>by
   obtain ⟨hz,cG,clock,hw,_⟩:=R'.obj i b _ hb ho
   have hnew:¬ b < w.heap.size:=by
    rcases E.own b ⟨i,hb⟩ with h | h
    ·exact absurd h (nk b)
    ·omega
   have hZ:Z1 b=max (g'.Z b) 1:=by
    show (if b < w.heap.size then Z b else match w'.heap[b]? with | some (.cells c _ _)=>max (g'.Z b) c.size | some (.map _ _)=>max (g'.Z b) 1 | _=>g'.Z b)=_
    rw [if_neg hnew,hw]
   rw [hZ]
   exact uf uO (uw _ _)
  refine ⟨v,Z1,rfl,V9 R' Z1 iH hO hM d _ _ _ hK hx,fun b hb => ?_,fun b hb => ?_,⟨E.os,E.tape,E.output,E.size,fun k hk=>(E.old k hk (nk k)).1⟩⟩
  ·show (if b < w.heap.size then Z b else match w'.heap[b]? with | some (.cells c _ _)=>max (g'.Z b) c.size | some (.map _ _)=>max (g'.Z b) 1 | _=>g'.Z b)=Z b
   rw [if_pos hb]
  ·rcases uu b w'.heap.size with h | h
   ·exact h
   ·have hn:w'.heap[b]?=none:=ul h
    have hb':Z1 b=g'.Z b:=by
     show (if b < w.heap.size then Z b else match w'.heap[b]? with | some (.cells c _ _)=>max (g'.Z b) c.size | some (.map _ _)=>max (g'.Z b) 1 | _=>g'.Z b)=_
     have:=E.size
     rw [if_neg (by omega),hn]
    exact R'.ed b (by omega)
end
end
section
def zP (m:Nat):AV→Bool
 | .aX i _=>decide (i < m)
 | .ptr i _ _=>decide (i < m)
 | .Zag i _ _=>decide (i < m)
 | .map i=>decide (i < m)
 | .eI _ i=>decide (i < m)
 | .func _ _ _ | .agg _ | .tuple _=>false
 | _=>true
def xI (m:Nat):AV→Bool
 | .func _ first bC=>first.all (zP m)&&bC.all (zP m)
 | .agg cs=>cs.all (zP m)
 | .tuple cs=>cs.all (zP m)
 | x=>zP m x
def zS (m:Nat):AV→Bool
 | .tuple cs=>cs.all (xI m)
 | x=>xI m x
def zY (m:Nat):aI→Prop
 | .af _ af=>∀ row∈af,∀ x∈row,zS m x=true
 | .bf _ _=>True
 | .map es=>∀ e∈es,zS m e.2=true
 | .dead=>True
 | .lp _ _ _ _=>True
section
variable {C:Ctx} {nt:Fr} {g g':Gh} {h h':Nat→Option aI} {N N':Nat→Prop} {st bF:St} {a:Act} {w w':World} {m:Nat}
def Gh.below (g:Gh) (m:Nat):Gh:=⟨fun i=>if i < m then g.ρ i else none,g.Z⟩
theorem RV.leaf (hh:∀ i o,h' i=some o→h i=some o) {x:AV} {v:Value} (hb:zP m x=true) (hv:RV C g h N w x v):RV C (g.below m) h' (· < m) w x v:=by
 cases hv with
 | top v=>exact .top v
 | undef=>exact .undef
 | ak x v hr=>exact .ak x v hr
 | nil=>exact .nil
 | cA a cap=>exact .cA a cap
 | eI l i hid hp=>
  have fE:i < m:=by simpa [zP] using hb
  refine .eI l i fE fun R s pe hg => ?_
  simp only [Gh.below,if_pos fE]
  exact hp R s pe (hh i _ hg)
 | aX i af v hr hid ht=>
  have fE:i < m:=by simpa [zP] using hb
  refine .aX i af v hr fE fun sz len hg => ?_
  obtain ⟨h1,h2,h3⟩:=ht sz len (hh i _ hg)
  refine ⟨h1,h2,fun e => ?_⟩
  simp only [Gh.below,if_pos fE]
  exact h3 e
 | cD cells b off cv hz hc hr=>exact .cD cells b off cv hz hc hr
 | ptr i row off v hid h1 hp=>
  have fE:i < m:=by simpa [zP] using hb
  refine .ptr i row off v fE h1 fun sz af hg => ?_
  simp only [Gh.below,if_pos fE]
  exact hp sz af (hh i _ hg)
 | Zag i off len v hid h1 hp=>
  have fE:i < m:=by simpa [zP] using hb
  refine .Zag i off len v fE h1 fun sz af hg => ?_
  simp only [Gh.below,if_pos fE]
  exact hp sz af (hh i _ hg)
 | map i v hid h1 hp=>
  have fE:i < m:=by simpa [zP] using hb
  refine .map i v fE h1 fun es hg => ?_
  simp only [Gh.below,if_pos fE]
  exact hp es (hh i _ hg)
 | func=>simp [zP] at hb
 | agg=>simp [zP] at hb
 | tuple=>simp [zP] at hb
theorem RV.gu (hh:∀ i o,h' i=some o→h i=some o) {x:AV} {v:Value} (hb:xI m x=true) (hv:RV C g h N w x v):RV C (g.below m) h' (· < m) w x v:=by
 cases hv with
 | func f first bC vf vc hlf hlc hf hc=>
  simp only [xI,ui,ue] at hb
  exact .func f first bC vf vc hlf hlc (fun i c v h1 h2=>(hf i c v h1 h2).leaf hh (hb.1 c (uc h1))) (fun i c v h1 h2=>(hc i c v h1 h2).leaf hh (hb.2 c (uc h1)))
 | agg cs vs hl h1 hr=>
  simp only [xI,ue] at hb
  exact .agg cs vs hl h1 fun i c v h2 h3=>(hr i c v h2 h3).leaf hh (hb c (uc h2))
 | tuple cs vs hl hr=>
  simp only [xI,ue] at hb
  exact .tuple cs vs hl fun i c v h2 h3=>(hr i c v h2 h3).leaf hh (hb c (uc h2))
 | top v=>exact .top v
 | undef=>exact .undef
 | ak x v hr=>exact .ak x v hr
 | nil=>exact .nil
 | cA a cap=>exact .cA a cap
 | eI l i hid hp=>exact RV.leaf hh hb (.eI l i hid hp)
 | aX i af v hr hid ht=>exact RV.leaf hh hb (.aX i af v hr hid ht)
 | cD cells b off cv hz hc hr=>exact .cD cells b off cv hz hc hr
 | ptr i row off v hid h1 hp=>exact RV.leaf hh hb (.ptr i row off v hid h1 hp)
 | Zag i off len v hid h1 hp=>exact RV.leaf hh hb (.Zag i off len v hid h1 hp)
 | map i v hid h1 hp=>exact RV.leaf hh hb (.map i v hid h1 hp)
theorem RV.restrict (hh:∀ i o,h' i=some o→h i=some o) {x:AV} {v:Value} (hb:zS m x=true) (hv:RV C g h N w x v):RV C (g.below m) h' (· < m) w x v:=by
 cases hv with
 | tuple cs vs hl hr=>
  simp only [zS,ue] at hb
  exact .tuple cs vs hl fun i c v h2 h3=>(hr i c v h2 h3).gu hh (hb c (uc h2))
 | func f first bC vf vc hlf hlc hf hc=>exact RV.gu hh hb (.func f first bC vf vc hlf hlc hf hc)
 | agg cs vs hl h1 hr=>exact RV.gu hh hb (.agg cs vs hl h1 hr)
 | top v=>exact .top v
 | undef=>exact .undef
 | ak x v hr=>exact .ak x v hr
 | nil=>exact .nil
 | cA a cap=>exact .cA a cap
 | eI l i hid hp=>exact RV.leaf hh hb (.eI l i hid hp)
 | aX i af v hr hid ht=>exact RV.leaf hh hb (.aX i af v hr hid ht)
 | cD cells b off cv hz hc hr=>exact .cD cells b off cv hz hc hr
 | ptr i row off v hid h1 hp=>exact RV.leaf hh hb (.ptr i row off v hid h1 hp)
 | Zag i off len v hid h1 hp=>exact RV.leaf hh hb (.Zag i off len v hid h1 hp)
 | map i v hid h1 hp=>exact RV.leaf hh hb (.map i v hid h1 hp)
theorem RH.restrict (R:RH C g h N w) (hN:∀ i,i < m→N i∨h' i=none) (hh:∀ i o,h' i=some o→h i=some o∧i < m∧zY m o):RH C (g.below m) h' (· < m) w:=by
 have nv:∀ i o,h' i=some o→h i=some o:=fun i o ho=>(hh i o ho).1
 have hr:∀ i b,(g.below m).ρ i=some b→i < m∧g.ρ i=some b:=fun i b hb=>by
  simp only [Gh.below] at hb
  split at hb
  ·rename_i fE;exact ⟨fE,hb⟩
  ·cases hb
 refine ⟨fun i j b hi hj=>R.inj i j b (hr i b hi).2 (hr j b hj).2,fun i b hb=>⟨(R.lt i b (hr i b hb).2).1,(hr i b hb).1⟩,fun i o ho=>(hh i o ho).2.1,fun i b o hb ho => ?_,fun i sz len ho hn => ?_,R.ed,R.fix.1,R.fix.2.1,fun b hb ⟨i,hi⟩=>R.fix.2.2 b hb ⟨i,(hr i b hi).2⟩⟩
 ·have H:=R.obj i b o (hr i b hb).2 (nv i o ho)
  have hbel:=(hh i o ho).2.2
  cases o with
  | af sz af=>
   obtain ⟨h0,c,e,h1,h2,h3⟩:=H
   refine ⟨h0,c,e,h1,h2,fun k row j x hk hj => ?_⟩
   obtain ⟨cv,h4,h5,h6⟩:=h3 k row j x hk hj
   exact ⟨cv,h4,h5,h6.restrict nv (hbel row (uc hk) x (uc hj))⟩
  | bf sz len=>exact H
  | dead=>trivial
  | lp l R s pe=>exact H
  | map es=>
   obtain ⟨h0,cG,clock,h1,h2,h3⟩:=H
   refine ⟨h0,cG,clock,h1,h2,fun k kk x hk => ?_⟩
   obtain ⟨e,h4,h5,h6⟩:=h3 k kk x hk
   exact ⟨e,h4,h5,h6.restrict nv (hbel (kk,x) (uc hk))⟩
 ·have fE:=(hh i _ ho).2.1
  simp only [Gh.below,if_pos fE] at hn
  exact R.cP i sz len (nv i _ ho) hn
theorem jv {α:Type}:∀ {l:List (Nat×α)} {i:Nat} {x:α},zc l i=some x→(i,x)∈l
 | [],i,x,h=>by simp [zc] at h
 | (k,v)::r,i,x,h=>by
  simp only [zc] at h
  split at h
  ·rename_i e;subst e;cases h;exact uy
  ·exact uG _ (jv h)
theorem Ya {st bF:St} (hn:bF.next≤st.next) (he:∀ p∈bF.env,zc st.env p.1=some p.2∧zS bF.next p.2=true)
  (hh:∀ p∈bF.heap,zc st.heap p.1=some p.2∧p.1 < bF.next∧zY bF.next p.2):ct st bF:=by
 intro C nt g a w R
 have AS:∀ i o,zc bF.heap i=some o→zc st.heap i=some o∧i < bF.next∧zY bF.next o:=fun i o ho=>hh (i,o) (jv ho)
 have nv:∀ i o,zc bF.heap i=some o→zc st.heap i=some o:=fun i o ho=>(AS i o ho).1
 refine ⟨g.below bF.next,⟨⟨R.env.size,R.env.defers.sub (fun b ⟨i,hi⟩=>⟨i,by simp only [Gh.below] at hi;split at hi;exact hi;cases hi⟩),fun t x hx => ?_⟩,R.heap.restrict (fun i hi=>.inl (uf hi hn)) AS⟩,fun g0 cL w0 hm E => ?_⟩
 ·obtain ⟨h1,h2⟩:=he (t,x) (jv hx)
  exact (R.env.slot t x h1).restrict nv h2
 ·have hr:∀ i,i < bF.next→(g.below bF.next).ρ i=g.ρ i:=fun i hi=>by simp only [Gh.below,if_pos hi]
  exact {
   os:=E.os
   tape:=E.tape
   output:=E.output
   size:=E.size
   old:=E.old
   own:=fun b ⟨i,hi⟩=>by
    simp only [Gh.below] at hi
    split at hi
    ·exact E.own b ⟨i,hi⟩
    ·cases hi
   cr:=E.cr
   cell:=E.cell
   shape:=E.shape
   next:=fun i hi=>uf hi hm
   ep:=fun i b hb o ho hnd hi=>by
    rw [hr i (uf hi hm)]
    exact E.ep i b hb o (nv i o ho) hnd hi
   cI:=fun i hb hi o ho hnd=>by
    rw [hr i (uf hi hm)]
    exact E.cI i hb hi o (nv i o ho) hnd
   af:=fun i hi sz af ho=>E.af i hi sz af (nv i _ ho)
   cV:=fun i hi sz len ho=>E.cV i hi sz len (nv i _ ho)
   maps:=fun i hi es ho=>E.maps i hi es (nv i _ ho)
   fH:=fun i hi ll RR s pe ho=>E.fH i hi ll RR s pe (nv i _ ho)}
theorem MZ {st:St} {t sz:Nat} (ht:zc st.env t=some .nil) :
  ct st {env:=zs st.env t (.aX st.next []),heap:=qb st.heap st.next (.bf sz 0),next:=st.next+1}:=by
 intro C nt g a w R
 obtain ⟨g',E,H,hv⟩:=Jt (id:=st.next) R.heap (Nat.lt_irrefl _) sz
 rw [xc] at E H hv
 have e1:bK [(st.next,aI.bf sz 0)] (zc st.heap)=zc (qb st.heap st.next (.bf sz 0)):=by
  funext i;simp only [bK,zF]
 rw [e1] at E H hv
 refine ⟨g',⟨⟨R.env.size,R.env.defers.eS E,fun t' x hx => ?_⟩,H⟩,fun g0 cL w0 hm E0=>E0.trans E⟩
 rw [ze] at hx
 split at hx
 ·rename_i e
  subst e
  cases hx
  have:=R.env.slot t _ ht
  rw [xP this]
  exact hv
 ·exact (R.env.slot t' x hx).mono E
end
end
structure Rec where
 dst:Option Nat
 r:AV
 aQ:List (Nat×aI)
 rd:List Nat
 ex:List Nat
def vK (f:Nat→Option AV):Option Nat→AV→Nat→Option AV
 | none,_=>f
 | some d,x=>fun t=>if d=t then some x else f t
def q6:List Rec→(Nat→Bool)→Nat→(Nat→Option AV)→Nat→Option AV
 | [],_,_,f=>f
 | rc::rs,L,k,f=>q6 rs L (k+1) (if L k then vK f rc.dst rc.r else f)
def qp:List Rec→(Nat→Bool)→Nat→(Nat→Option aI)→Nat→Option aI
 | [],_,_,h=>h
 | rc::rs,L,k,h=>qp rs L (k+1) (if L k then bK rc.aQ h else h)
def zQ (aQ:List (Nat×aI)):List Nat:=aQ.map (·.1)
theorem vj:∀ {aQ:List (Nat×aI)} {h:Nat→Option aI} {i:Nat},i ∉ zQ aQ→bK aQ h i=h i
 | [],_,_,_=>rfl
 | (k,o)::r,h,i,hi=>by
  simp only [zQ,uQ,uA,not_or] at hi
  simp only [bK]
  rw [if_neg (fun e=>hi.1 e.symm)]
  exact vj hi.2
theorem Dl:∀ {aQ:List (Nat×aI)} {h h':Nat→Option aI} {i:Nat},i∈zQ aQ→bK aQ h i=bK aQ h' i
 | [],_,_,_,hi=>by simp [zQ] at hi
 | (k,o)::r,h,h',i,hi=>by
  simp only [bK]
  split
  ·rfl
  ·rename_i e
   simp only [zQ,uQ,uA] at hi
   rcases hi with hi | hi
   ·exact absurd hi.symm e
   ·exact Dl hi
theorem wG {t:Nat}:∀ (recs:List Rec) (L1 L2:Nat→Bool) (k:Nat) (f1 f2:Nat→Option AV),(∀ (j:Nat) (rc:Rec),recs[j]?=some rc→rc.dst=some t→L1 (k+j)=L2 (k+j))→f1 t=f2 t →
  q6 recs L1 k f1 t=q6 recs L2 k f2 t
 | [],_,_,_,_,_,_,e=>e
 | rc::rs,L1,L2,k,f1,f2,hc,e=>by
  refine wG rs L1 L2 (k+1) _ _ (fun j Ac hj hd=>by have:=hc (j+1) Ac (by simpa using hj) hd;rwa [show k+(j+1)=k+1+j by omega] at this) ?_
  by_cases hd:rc.dst=some t
  ·have:=hc 0 rc rfl hd
   simp only [uv] at this
   rw [this]
   split
   ·simp [hd,vK]
   ·exact e
  ·have hp:∀ f:Nat→Option AV,vK f rc.dst rc.r t=f t:=fun f=>by
    cases hdd:rc.dst with
    | none=>rfl
    | some d=>simp only [vK];rw [if_neg (fun e=>hd (by rw [hdd,e]))]
   have h1:(if L1 k then vK f1 rc.dst rc.r else f1) t=f1 t:=by split<;>simp [hp]
   have h2:(if L2 k then vK f2 rc.dst rc.r else f2) t=f2 t:=by split<;>simp [hp]
   rw [h1,h2,e]
theorem yE {i:Nat}:∀ (recs:List Rec) (L1 L2:Nat→Bool) (k:Nat) (h1 h2:Nat→Option aI),(∀ (j:Nat) (rc:Rec),recs[j]?=some rc→i∈zQ rc.aQ→L1 (k+j)=L2 (k+j))→h1 i=h2 i →
  qp recs L1 k h1 i=qp recs L2 k h2 i
 | [],_,_,_,_,_,_,e=>e
 | rc::rs,L1,L2,k,h1,h2,hc,e=>by
  refine yE rs L1 L2 (k+1) _ _ (fun j Ac hj hd=>by have:=hc (j+1) Ac (by simpa using hj) hd;rwa [show k+(j+1)=k+1+j by omega] at this) ?_
  by_cases hd:i∈zQ rc.aQ
  ·have:=hc 0 rc rfl hd
   simp only [uv] at this
   rw [this]
   split
   ·exact Dl hd
   ·exact e
  ·have h3:(if L1 k then bK rc.aQ h1 else h1) i=h1 i:=by split<;>simp [vj hd]
   have h4:(if L2 k then bK rc.aQ h2 else h2) i=h2 i:=by split<;>simp [vj hd]
   rw [h3,h4,e]
def yd (L:Nat→Bool) (i:Nat):Nat→Bool:=fun k=>if k=i then true else L k
theorem xV (L:Nat→Bool) {i k:Nat} (h:k≠i):yd L i k=L k:=by simp only [yd];rw [if_neg h]
theorem kH (L:Nat→Bool) (i:Nat):yd L i i=true:=by simp [yd]
theorem Y7:∀ (recs:List Rec) (L:Nat→Bool) (k i:Nat) (rc:Rec) (f:Nat→Option AV) (t:Nat),recs[i]?=some rc→(∀ (j:Nat) (rj:Rec) (d:Nat),recs[j]?=some rj→j≠i→rc.dst=some d→rj.dst≠some d)→L (k+i)=false →
  q6 recs (yd L (k+i)) k f t=vK (q6 recs L k f) rc.dst rc.r t
 | [],L,k,i,rc,f,t,hi,_,_=>by simp at hi
 | r0::rs,L,k,0,rc,f,t,hi,hd,hL=>by
  simp at hi
  subst hi
  simp only [uv] at hL ⊢
  simp only [q6,kH,if_true,hL,uk,if_false]
  cases fe:r0.dst with
  | none=>exact wG rs _ _ _ _ _ (fun j Ac hj _=>xV _ (by omega)) rfl
  | some d=>
   simp only [vK]
   by_cases e:d=t
   ·subst e
    rw [if_pos rfl]
    have:∀ (rs:List Rec) (L:Nat→Bool) (k:Nat) (f:Nat→Option AV),(∀ (j:Nat) (rj:Rec),rs[j]?=some rj→rj.dst≠some d)→q6 rs L k f d=f d:=by
     intro rs
     induction rs with
     | nil=>intro L k f _;rfl
     | cons r1 rs ih=>
      intro L k f hn
      simp only [q6]
      rw [ih _ _ _ (fun j rj hj=>hn (j+1) rj (by simpa using hj))]
      have h1:=hn 0 r1 rfl
      split
      ·cases o8:r1.dst with
       | none=>rfl
       | some d1=>simp only [vK];rw [if_neg (fun e=>h1 (by rw [o8,e]))]
      ·rfl
    rw [this _ _ _ _ (fun j rj hj=>hd (j+1) rj d (by simpa using hj) (by omega) fe)]
    simp
   ·rw [if_neg e]
    exact wG rs _ _ _ _ _ (fun j Ac hj _=>xV _ (by omega)) (by simp [e])
 | r0::rs,L,k,i+1,rc,f,t,hi,hd,hL=>by
  simp only [q6]
  have hk:yd L (k+(i+1)) k=L k:=xV _ (by omega)
  rw [hk,show k+(i+1)=k+1+i by omega]
  exact Y7 rs L (k+1) i rc _ t (by simpa using hi) (fun j rj d hj hne=>hd (j+1) rj d (by simpa using hj) (by omega)) (by rw [show k+1+i=k+(i+1) by omega];exact hL)
theorem Y8:∀ (recs:List Rec) (L:Nat→Bool) (k i:Nat) (rc:Rec) (h:Nat→Option aI) (x:Nat),recs[i]?=some rc →
  (∀ (j:Nat) (rj:Rec),recs[j]?=some rj→i < j→L (k+j)=true→∀ y,y∈zQ rc.aQ→y ∉ zQ rj.aQ)→L (k+i)=false →
  qp recs (yd L (k+i)) k h x=bK rc.aQ (qp recs L k h) x
 | [],L,k,i,rc,h,x,hi,_,_=>by simp at hi
 | r0::rs,L,k,0,rc,h,x,hi,hd,hL=>by
  simp at hi
  subst hi
  simp only [uv] at hL ⊢
  simp only [qp,kH,if_true,hL,uk,if_false]
  by_cases hx:x∈zQ r0.aQ
  ·have:∀ (rs:List Rec) (L':Nat→Bool) (k':Nat) (h':Nat→Option aI),(∀ (j:Nat) (rj:Rec),rs[j]?=some rj→L' (k'+j)=true→x ∉ zQ rj.aQ)→qp rs L' k' h' x=h' x:=by
    intro rs
    induction rs with
    | nil=>intro L' k' h' _;rfl
    | cons r1 rs ih=>
     intro L' k' h' hn
     simp only [qp]
     rw [ih _ _ _ (fun j rj hj hl=>hn (j+1) rj (by simpa using hj) (by rwa [show k'+(j+1)=k'+1+j by omega]))]
     split
     ·rename_i hl;exact vj (hn 0 r1 rfl (by simpa using hl))
     ·rfl
   rw [this _ _ _ _ (fun j rj hj hl=>by
    rw [xV _ (by omega)] at hl
    exact hd (j+1) rj (by simpa using hj) (by omega) (by rwa [show k+(j+1)=k+1+j by omega]) x hx)]
   exact Dl hx
  ·rw [vj hx]
   exact yE rs _ _ _ _ _ (fun j Ac hj _=>xV _ (by omega)) (by simp [vj hx])
 | r0::rs,L,k,i+1,rc,h,x,hi,hd,hL=>by
  simp only [qp]
  have hk:yd L (k+(i+1)) k=L k:=xV _ (by omega)
  rw [hk,show k+(i+1)=k+1+i by omega]
  exact Y8 rs L (k+1) i rc _ x (by simpa using hi) (fun j rj hj hlt hl=>hd (j+1) rj (by simpa using hj) (by omega) (by rwa [show k+(j+1)=k+1+j by omega])) (by rw [show k+1+i=k+(i+1) by omega];exact hL)
def ql:AV→List Nat
 | .aX i _=>[i]
 | .ptr i _ _=>[i]
 | .Zag i _ _=>[i]
 | .map i=>[i]
 | _=>[]
def zK:dc→List bD
 | .fP x | .box _ x | .load _ _ x | .iW _ x | .not x | .neg x | .conv _ x | .len x | .lens x | .iF x | .ext x _ | .mks _ _ _ x=>[x]
 | .pick c a b=>[c,a,b]
 | .alloc _ _ | .fD=>[]
 | .build _ ps=>ps.map (·.2.2)
 | .dy _ _ _ ps=>ps.map (·.2)
 | .store _ x v | .idx _ x v | .idxa _ _ x v | .bin _ x v | .oY _ x v | .eqs _ _ x v | .mm _ x v | .fc _ x v | .app _ _ x v=>[x,v]
 | .pF _ a b=>a++b
 | .look _ _ _ m k=>[m,k]
 | .upd _ m k v=>[m,k,v]
 | .slc _ x lo hi=>[x]++lo.toList++hi.toList
 | .mz x=>[x]
 | .B1 _ x=>[x]
 | .eqnm _ x v=>[x,v]
 | .cut _ _ _ x=>[x]
 | .copy _ d x=>[d,x]
 | .ixa _ _ x i=>[x,i]
 | .call f args=>f::args
def qx (op:dc) (ev:bD→AV):List Nat:=(zK op).flatMap fun x=>ql (ev x)
def zq (op:dc) (ev:bD→AV):List Nat:=match op with
 | .fP _=>[]
 | op=>qx op ev
theorem KZ {op:dc} {ev:bD→AV} {h h':Nat→Option aI} {id:Nat} (ha:∀ i∈qx op ev,h' i=h i):ap op ev h' id=ap op ev h id:=by
 have ht:∀ x∈zK op,∀ i∈ql (ev x),h' i=h i:=fun x hx i hi=>ha i (by simp only [qx,List.mem_flatMap];exact ⟨x,hx,hi⟩)
 have hro:∀ x∈zK op,jU h' (ev x)=jU h (ev x):=fun x hx=>by
  unfold jU
  split<;>try rfl
  rename_i i off len e
  rw [ht x hx i (by rw [e];simp [ql])]
 have hlo:∀ x∈zK op,xR h' (ev x)=xR h (ev x):=fun x hx=>by
  unfold xR
  split<;>try rfl
  rename_i i off len e
  rw [ht x hx i (by rw [e];simp [ql])]
 have hme:∀ x∈zK op,jf h' (ev x)=jf h (ev x):=fun x hx=>by
  unfold jf
  split<;>try rfl
  rename_i i e
  rw [ht x hx i (by rw [e];simp [ql])]
 have hmn:∀ x∈zK op,vD h' (ev x)=vD h (ev x):=fun x hx=>by
  unfold vD
  split<;>try rfl
  rename_i i e
  rw [ht x hx i (by rw [e];simp [ql])]
 cases op with
 | eqnm neg x y=>simp only [ap,hmn x (by simp [zK])]
 | load ag n x=>
  simp only [ap]
  split<;>try rfl
  rename_i i r o e
  rw [ht x (by simp [zK]) i (by rw [e];simp [ql])]
 | store n x v=>
  simp only [ap]
  split<;>try rfl
  rename_i i r o cs e _
  rw [ht x (by simp [zK]) i (by rw [e];simp [ql])]
 | iW off x=>
  simp only [ap]
  split<;>try rfl
  rename_i i r o e
  rw [ht x (by simp [zK]) i (by rw [e];simp [ql])]
 | idx sz x i=>
  simp only [ap]
  split<;>try rfl
  split<;>try rfl
  rename_i j off len e
  rw [ht x (by simp [zK]) j (by rw [e];simp [ql])]
 | idxa n sz x i=>
  simp only [ap]
  split<;>try rfl
  rename_i k m j e1 e2
  rw [ht x (by simp [zK]) j (by rw [e2];simp [ql])]
 | len x=>simp only [ap,hlo x (by simp [zK])]
 | iF x=>
  simp only [ap]
  split<;>try rfl
  rename_i i e
  rw [ht x (by simp [zK]) i (by rw [e];simp [ql])]
 | look s z ok m k=>simp only [ap,hme m (by simp [zK])]
 | upd s m k v=>
  simp only [ap]
  split<;>try rfl
  rename_i i kv e1 e2
  rw [ht m (by simp [zK]) i (by rw [e1];simp [ql])]
 | mz x=>
  simp only [ap]
  split<;>try rfl
  rename_i i r o e
  rw [ht x (by simp [zK]) i (by rw [e];simp [ql])]
 | copy sz d x=>
  have sF:xw h' (ev x)=xw h (ev x):=by
   unfold xw
   split
   ·rename_i i off len e
    rw [ht x (by simp [zK]) i (by rw [e];simp [ql])]
   ·rw [hro x (by simp [zK])]
  simp only [ap,B2,sF]
  split<;>try rfl
  rename_i i len e
  rw [ht d (by simp [zK]) i (by rw [e];simp [ql])]
 | app sz bI s x=>
  have sF:xw h' (ev x)=xw h (ev x):=by
   unfold xw
   split
   ·rename_i i off len e
    rw [ht x (by simp [zK]) i (by rw [e];simp [ql])]
   ·rw [hro x (by simp [zK])]
  simp only [ap]
  split
  ·rename_i i off len e
   have:=ht s (by simp [zK]) i (by rw [e];simp [ql])
   simp only [Wk,sF,this]
  ·simp only [kS,hro x (by simp [zK])]
   split<;>try rfl
   split<;>try rfl
   split<;>try rfl
   rename_i i af e2
   rw [ht s (by simp [zK]) i (by rw [e2];simp [ql])]
 | _=>rfl
theorem M0 {op:dc} {ev:bD→AV} {h h':Nat→Option aI} {id:Nat} (ha:∀ i∈zq op ev,h' i=h i):ap op ev h' id=ap op ev h id:=by
 cases op with
 | fP x=>rfl
 | _=>exact KZ ha
section
def xt (N:Nat→Prop) (l:List Nat):Nat→Prop:=fun i=>N i∨i∈l
theorem Jz (N:Nat→Prop):xt N []=N:=by funext i;simp [xt]
def dJ (C:Ctx) (f:Nat) (args:List AV) (h0:Nat→Option aI) (rd:List Nat) (r:AV) (aQ:List (Nat×aI)) (ex:List Nat):Prop:=yb C f ∧
 ∀ (g:Gh) (h:Nat→Option aI) (N:Nat→Prop) (w:World) (vs:List Value),(∀ i∈rd,h i=h0 i)→(∀ i∈ex,¬ N i)→RH C g h N w→nH C g h N w args vs →
  Calls C.P (C.eC f) vs.toArray w fun e w'=>∃ v g',e=.returned v∧b9 g h N w g' (bK aQ h) (xt N ex) w'∧RH C g' (bK aQ h) (xt N ex) w'∧RV C g' (bK aQ h) (xt N ex) w' r v
def nw (C:Ctx) (it:bh) (st:St) (rc:Rec):Prop:=
 match qc st.env it.guard with
 | some false=>rc.r=.undef∧rc.aQ=[]∧rc.ex=[]
 | some true=>match it.op with
  | .call f args=>match zd st.env f with
   | .func f' first bC=>dJ C f' (first++args.map (zd st.env)++bC) (zc st.heap) rc.rd rc.r rc.aQ rc.ex
   | _=>False
  | op=>ap op (zd st.env) (zc st.heap) st.next=some (rc.r,rc.aQ)∧rc.rd=zq op (zd st.env)∧rc.ex=[]
 | none=>False
def ZM (C:Ctx):List bh→St→List Rec→St→Prop
 | [],st,[],bF=>bF=st
 | it::its,st,rc::recs,bF=>rc.dst=it.dst∧nw C it st rc∧ZM C its (st.after it.dst rc.r rc.aQ) recs bF
 | _,_,_,_=>False
def j9 (a b:Rec):Bool:=(zQ a.aQ).any (fun i=>b.rd.contains i||(zQ b.aQ).contains i)||(zQ b.aQ).any (fun i=>a.rd.contains i)
def Qu (ord:List Nat) (recs:List Rec):Bool:=
 (uV recs.length).all fun j=>match recs[j]? with
  | some rj=>(zQ rj.aQ).isEmpty&&rj.rd.isEmpty||(uV j).all fun i=>match recs[i]? with
   | some ri=>dV ord i j || !j9 ri rj
   | none=>true
  | none=>true
section
variable {C:Ctx} {nt:Fr} {g g':Gh} {st bF:St} {a:Act} {w w':World}
theorem Qv {ord:List Nat} {recs:List Rec} (hm:Qu ord recs=true) {i j:Nat} {ri rj:Rec} (hi:recs[i]?=some ri) (hj:recs[j]?=some rj) (hlt:i < j) (hc:j9 ri rj=true):dV ord i j=true:=by
 unfold Qu at hm
 have hjl:j < recs.length:=(ua.1 hj).1
 have h1:=ue.1 hm j (by simp [hjl])
 simp only [hj,ug,ui,List.isEmpty_iff] at h1
 rcases h1 with ⟨h2,h3⟩ | h1
 ·simp [j9,h2,h3] at hc
 ·have h2:=ue.1 h1 i (by simp [hlt])
  simp only [hi,ug,uM] at h2
  rcases h2 with h2 | h2
  ·exact h2
  ·rw [hc] at h2;cases h2
theorem Qw:∀ {items:List bh} {st:St} {recs:List Rec} {bF:St},ZM C items st recs bF→recs.length=items.length
 | [],_,[],_,_=>rfl
 | [],_,_::_,_,h=>h.elim
 | _::_,_,[],_,h=>h.elim
 | it::its,st,rc::recs,bF,h=>by simp [Qw h.2.2]
theorem Zx (st:St) (dst:Option Nat) (r:AV) (aQ:List (Nat×aI)):zc (st.after dst r aQ).env=vK (zc st.env) dst r:=by
 cases dst with
 | none=>rfl
 | some d=>funext t;simp only [St.after,St.put,vK,ze]
theorem kZ (st:St) (dst:Option Nat) (r:AV) (aQ:List (Nat×aI)):zc (st.after dst r aQ).heap=bK aQ (zc st.heap):=by
 cases dst<;>simp only [St.after,St.put,jQ]
theorem WZ (st:St) (dst:Option Nat) (r:AV) (aQ:List (Nat×aI)):(st.after dst r aQ).next=st.next+1:=by
 cases dst<;>rfl
theorem Yb:∀ (items:List bh) (st:St) (recs:List Rec) (bF:St) (k:Nat),ZM C items st recs bF→∀ (i:Nat) (it:bh) (rc:Rec),items[i]?=some it→recs[i]?=some rc →
  ∃ fy,nw C it fy rc∧rc.dst=it.dst∧zc fy.env=q6 recs (fun j=>decide (j < k+i)) k (zc st.env)∧zc fy.heap=qp recs (fun j=>decide (j < k+i)) k (zc st.heap)∧fy.next=st.next+i
 | [],_,[],_,_,_,i,it,rc,hi,_=>by simp at hi
 | [],_,_::_,_,_,h,_,_,_,_,_=>h.elim
 | _::_,_,[],_,_,h,_,_,_,_,_=>h.elim
 | Gb::its,st,Ad::recs,bF,k,⟨h1,h2,h3⟩,0,it,rc,hi,hr=>by
  simp at hi hr
  subst hi;subst hr
  refine ⟨st,h2,h1,?_,?_,rfl⟩
  ·funext t
   have:q6 (Ad::recs) (fun j=>decide (j < k+0)) k (zc st.env) t=q6 (Ad::recs) (fun _=>false) k (zc st.env) t:=wG _ _ _ _ _ _ (fun j rc _ _=>by simp) rfl
   rw [this]
   have:∀ (l:List Rec) (k:Nat) (f:Nat→Option AV),q6 l (fun _=>false) k f=f:=by
    intro l
    induction l with
    | nil=>intro k f;rfl
    | cons r l ih=>intro k f;simp [q6,ih]
   rw [this]
  ·funext t
   have:qp (Ad::recs) (fun j=>decide (j < k+0)) k (zc st.heap) t=qp (Ad::recs) (fun _=>false) k (zc st.heap) t:=yE _ _ _ _ _ _ (fun j rc _ _=>by simp) rfl
   rw [this]
   have:∀ (l:List Rec) (k:Nat) (f:Nat→Option aI),qp l (fun _=>false) k f=f:=by
    intro l
    induction l with
    | nil=>intro k f;rfl
    | cons r l ih=>intro k f;simp [qp,ih]
   rw [this]
 | Gb::its,st,Ad::recs,bF,k,⟨h1,h2,h3⟩,i+1,it,rc,hi,hr=>by
  obtain ⟨fy,h4,h5,h6,h7,h8⟩:=Yb its _ recs bF (k+1) h3 i it rc (by simpa using hi) (by simpa using hr)
  refine ⟨fy,h4,h5,?_,?_,by rw [h8,WZ];omega⟩
  ·rw [h6,Zx,←h1]
   simp only [q6]
   rw [show k+1+i=k+(i+1) by omega]
   simp
  ·rw [h7,kZ]
   simp only [qp]
   rw [show k+1+i=k+(i+1) by omega]
   simp
theorem Wm:∀ (items:List bh) (st:St) (recs:List Rec) (bF:St) (k:Nat) (L:Nat→Bool),ZM C items st recs bF→(∀ j,j < items.length→L (k+j)=true) →
  zc bF.env=q6 recs L k (zc st.env)∧zc bF.heap=qp recs L k (zc st.heap)∧bF.next=st.next+items.length
 | [],_,[],_,_,_,h,_=>by cases h;exact ⟨rfl,rfl,rfl⟩
 | [],_,_::_,_,_,_,h,_=>h.elim
 | _::_,_,[],_,_,_,h,_=>h.elim
 | Gb::its,st,Ad::recs,bF,k,L,⟨h1,h2,h3⟩,hL=>by
  obtain ⟨h4,h5,h6⟩:=Wm its _ recs bF (k+1) L h3 (fun j hj=>by have:=hL (j+1) (by simp;omega);rwa [show k+(j+1)=k+1+j by omega] at this)
  have h0:=hL 0 (by simp)
  simp only [uv] at h0
  refine ⟨?_,?_,by rw [h6,WZ];simp;omega⟩
  ·rw [h4,Zx,←h1];simp only [q6,h0,if_true]
  ·rw [h5,kZ];simp only [qp,h0,if_true]
theorem M2 (acc:Array Nat) (i:Nat):∀ (l:List Edge) (s:Nat),(l.foldl (fun s e=>if Region.binds .any e then s ||| 2 ^ e.on ||| acc.getD e.on 0 else s) s).testBit i=true →
  s.testBit i=true∨∃ e∈l,Region.binds .any e=true∧(e.on=i∨(acc.getD e.on 0).testBit i=true):=by
 intro l
 induction l with
 | nil=>intro s h;exact .inl h
 | cons e l ih=>
  intro s h
  simp only [List.foldl_cons] at h
  rcases ih _ h with h1 | ⟨e',he',h1⟩
  ·split at h1
   ·rename_i hb
    simp only [Nat.testBit_or,ug,Nat.testBit_two_pow,decide_eq_true_eq] at h1
    rcases h1 with (h1 | h1) | h1
    ·exact .inl h1
    ·exact .inr ⟨e,uy,hb,.inl h1⟩
    ·exact .inr ⟨e,uy,hb,.inr h1⟩
   ·exact .inl h1
  ·exact .inr ⟨e',uG _ he',h1⟩
theorem M3:∀ (l:List Oper) (acc:Array Nat),∃ R:Array Nat,R=l.foldl (fun acc o=>acc.push (o.after.foldl (fun s e=>if Region.binds .any e then s ||| 2 ^ e.on ||| acc.getD e.on 0 else s) 0)) acc ∧
  (∀ j,j < acc.size→R.getD j 0=acc.getD j 0) ∧
  ∀ (j:Nat) (o:Oper) (i:Nat),l[j]?=some o→(R.getD (acc.size+j) 0).testBit i=true→∃ e∈o.after,Region.binds .any e=true∧(e.on=i∨(R.getD e.on 0).testBit i=true):=by
 intro l
 induction l with
 | nil=>intro acc;exact ⟨acc,rfl,fun _ _=>rfl,fun j o i hj=>by simp at hj⟩
 | cons o l ih=>
  intro acc
  obtain ⟨R,h1,h2,h3⟩:=ih (acc.push (o.after.foldl (fun s e=>if Region.binds .any e then s ||| 2 ^ e.on ||| acc.getD e.on 0 else s) 0))
  refine ⟨R,h1,fun j hj => ?_,fun j o' i hj ht => ?_⟩
  ·rw [h2 j (by simp;omega)]
   have hne:j≠acc.size:=by omega
   simp [uH,hne]
  ·cases j with
   | zero=>
    simp at hj
    subst hj
    simp only [uv] at ht
    have hval:R.getD acc.size 0=o.after.foldl (fun s e=>if Region.binds .any e then s ||| 2 ^ e.on ||| acc.getD e.on 0 else s) 0:=by
     rw [h2 acc.size (by simp)];simp
    rw [hval,←uL] at ht
    rcases M2 acc i _ 0 ht with h4 | ⟨e,he,hb,h4⟩
    ·simp at h4
    ·refine ⟨e,by simpa using he,hb,?_⟩
     rcases h4 with h4 | h4
     ·exact .inl h4
     ·refine .inr ?_
      rcases uu e.on acc.size with hlt | hge
      ·rw [h2 e.on (by simp;omega)]
       have hne:e.on≠acc.size:=by omega
       simpa [uH,hne] using h4
      ·simp [ul hge] at h4
   | succ j=>
    refine h3 j o' i (by simpa using hj) ?_
    rw [←ht]
    congr 2
    simp;omega
theorem M4 {ops:Array Oper} {i j:Nat} {o:Oper} (hj:ops[j]?=some o) (hb:dV (Region.before ops).toList i j=true) :
  ∃ e∈o.after,Region.binds .any e=true∧(e.on=i∨dV (Region.before ops).toList i e.on=true):=by
 obtain ⟨R,h1,_,h3⟩:=M3 ops.toList #[]
 have hR:R=Region.before ops:=by rw [h1];unfold Region.before;rw [←uL]
 have rE:∀ k,(Region.before ops).toList.getD k 0=(Region.before ops).getD k 0:=fun k=>by simp [List.getD,un]
 unfold dV at hb ⊢
 rw [rE] at hb
 obtain ⟨e,he,nW,h4⟩:=h3 j o i (by simpa using hj) (by rw [hR];simpa using hb)
 refine ⟨e,he,nW,?_⟩
 rcases h4 with h4 | h4
 ·exact .inl h4
 ·rw [hR] at h4;rw [rE];exact .inr h4
theorem Za {ops:Array Oper} {ord:List Nat} (hd:vH ops ord=true) {i:Nat} {o:Oper} (hi:ops[i]?=some o) {e:Edge} (he:e∈o.after) (hb:Region.binds .any e=true):e.on < i:=by
 unfold vH at hd
 simp only [ui] at hd
 have rF:i < ops.size:=(ub.1 hi).1
 have h1:=ue.1 hd.1 i (by simp [rF])
 simp only [hi] at h1
 have h2:=Array.all_eq_true_iff_forall_mem.1 h1 e he
 simpa [hb] using h2
theorem JA {ops:Array Oper} {ord:List Nat} (hd:vH ops ord=true) {i j:Nat} {oi oj:Oper} {d:Nat} (hi:ops[i]?=some oi) (hj:ops[j]?=some oj) (fe:oi.dst=some d) (hne:i≠j) :
  oj.dst≠some d∧(d∈oj.looksAt ops→if i < j then dV ord i j=true else dV ord j i=true):=by
 unfold vH at hd
 simp only [ui] at hd
 have rF:i < ops.size:=(ub.1 hi).1
 have hjl:j < ops.size:=(ub.1 hj).1
 have h1:=ue.1 hd.2 i (by simp [rF])
 simp only [hi,fe] at h1
 have h2:=ue.1 h1 j (by simp [hjl])
 simp only [hj,ug,beq_iff_eq,hne,false_or,ui,bne_iff_ne,ne_eq,uM] at h2
 refine ⟨h2.1,fun hm => ?_⟩
 rcases h2.2 with h3 | h3
 ·have:(oj.looksAt ops).contains d=true:=by simpa using hm
  rw [this] at h3;cases h3
 ·split
  ·rename_i hlt;simpa [hlt] using h3
  ·rename_i hlt;simpa [hlt] using h3
def W0 (ops:Array Oper) (listed:Array Bool):Prop:=∀ (j:Nat) (o:Oper),ops[j]?=some o→listed.getD j false=true→∀ e∈o.after,Region.binds .any e=true→listed.getD e.on false=true
theorem W3 {ops:Array Oper} {listed:Array Bool} (hd:vH ops (Region.before ops).toList=true) (hc:W0 ops listed):∀ (j i:Nat) (o:Oper),ops[j]?=some o →
  (∀ e∈o.after,Region.binds .any e=true→listed.getD e.on false=true)→dV (Region.before ops).toList i j=true→listed.getD i false=true:=by
 intro j
 induction j using uE with
 | _ j ih=>
  intro i o hj ha hb
  obtain ⟨e,he,nW,h1⟩:=M4 hj hb
  have hl:=ha e he nW
  rcases h1 with rfl | h1
  ·exact hl
  ·have hlt:=Za hd hj he nW
   have hjl:j < ops.size:=(ub.1 hj).1
   have Gc:ops[e.on]?=some (ops[e.on]'(by omega)):=by simp
   exact ih e.on hlt i _ Gc (fun e' he' hb'=>hc e.on _ Gc hl e' he' hb') h1
end
end
section
section
variable {C:Ctx} {nt:Fr} {ro:Option Nat}
def NS (n0:Nat) (recs:List Rec) (L:Nat→Bool):Nat→Prop:=fun i=>i < n0∨(∃ k,L k=true∧i=n0+k)∨∃ k rc,L k=true∧recs[k]?=some rc∧i∈rc.ex
def Yc (n0:Nat) (recs:List Rec):Prop:=(∀ (k:Nat) (rc:Rec) (i:Nat),recs[k]?=some rc→i∈rc.ex→n0+recs.length≤i)∧∀ (k l:Nat) (rk rl:Rec) (i:Nat),recs[k]?=some rk→recs[l]?=some rl→i∈rk.ex→i∈rl.ex→k=l
def AT (C:Ctx) (nt:Fr) (recs:List Rec) (g0:Gh) (st:St) (w0:World) (L:Nat→Bool) (a:Act) (w:World):Prop:=
 ∃ g,RH C g (qp recs L 0 (zc st.heap)) (NS st.next recs L) w∧b9 g0 (zc st.heap) (· < st.next) w0 g (qp recs L 0 (zc st.heap)) (NS st.next recs L) w ∧
  a.tmps.size=nt.n∧Marks nt.B g w a.defers∧∀ t x,q6 recs L 0 (zc st.env) t=some x→RV C g (qp recs L 0 (zc st.heap)) (NS st.next recs L) w x (a.tmps.getD t undef)
theorem Dm (n0:Nat) {recs:List Rec} {rc:Rec} (L:Nat→Bool) (i:Nat) (hi:recs[i]?=some rc):NS n0 recs (yd L i)=xt (qo (NS n0 recs L) (n0+i)) rc.ex:=by
 funext x
 simp only [NS,qo,xt,eq_iff_iff]
 constructor
 ·rintro (h | ⟨k,h1,rfl⟩ | ⟨k,r,h1,h2,h3⟩)
  ·exact .inl (.inl (.inl h))
  ·by_cases e:k=i
   ·subst e;exact .inl (.inr rfl)
   ·rw [xV _ e] at h1;exact .inl (.inl (.inr (.inl ⟨k,h1,rfl⟩)))
  ·by_cases e:k=i
   ·subst e;rw [hi] at h2;cases h2;exact .inr h3
   ·rw [xV _ e] at h1;exact .inl (.inl (.inr (.inr ⟨k,r,h1,h2,h3⟩)))
 ·rintro (((h | ⟨k,h1,rfl⟩ | ⟨k,r,h1,h2,h3⟩) | rfl) | h)
  ·exact .inl h
  ·by_cases e:k=i
   ·subst e;exact .inr (.inl ⟨k,kH _ _,rfl⟩)
   ·exact .inr (.inl ⟨k,by rw [xV _ e];exact h1,rfl⟩)
  ·by_cases e:k=i
   ·subst e;exact .inr (.inr ⟨k,r,kH _ _,h2,h3⟩)
   ·exact .inr (.inr ⟨k,r,by rw [xV _ e];exact h1,h2,h3⟩)
  ·exact .inr (.inl ⟨i,kH _ _,rfl⟩)
  ·exact .inr (.inr ⟨i,rc,kH _ _,hi,h⟩)
theorem M5 {n0:Nat} {recs:List Rec} (hex:Yc n0 recs) {L:Nat→Bool} {i:Nat} (h:L i=false) (hi:i < recs.length):¬ NS n0 recs L (n0+i):=by
 rintro (h1 | ⟨k,h1,h2⟩ | ⟨k,r,h1,h2,h3⟩)
 ·omega
 ·have:k=i:=by omega
  subst this
  rw [h] at h1;cases h1
 ·have:=hex.1 k r _ h2 h3;omega
theorem M6 {n0:Nat} {recs:List Rec} (hex:Yc n0 recs) {L:Nat→Bool} (hL:∀ k,L k=true→k < recs.length) {i:Nat} {rc:Rec} (h:L i=false) (hi:recs[i]?=some rc):∀ x∈rc.ex,¬ NS n0 recs L x:=by
 intro x hx
 have h0:=hex.1 i rc x hi hx
 rintro (h1 | ⟨k,h1,h2⟩ | ⟨k,r,h1,h2,h3⟩)
 ·omega
 ·have:=hL k h1;omega
 ·have:=hex.2 k i r rc x h2 hi h3 hx
  subst this
  rw [h] at h1;cases h1
theorem M7 {ops:Array Oper} {items:List bh} {recs:List Rec} {st bF:St} {g0:Gh} {w0:World} (hm:aY (xH C nt.n ops) ops.toList=some items) (hrun:ZM C items st recs bF)
  (hd:vH ops (Region.before ops).toList=true) (hmem:Qu (Region.before ops).toList recs=true) (hex:Yc st.next recs) {listed:Array Bool} (hsz:listed.size=ops.size) (dY:W0 ops listed)
  {i:Nat} (hi:i∈Region.ready .any ops listed) {a:Act} {w:World} (hI:AT C nt recs g0 st w0 (fun k=>listed.getD k false) a w) {Q:Exit→Act→World→Prop} {K:Act→World→Prop}
  (hK:∀ a' w',AT C nt recs g0 st w0 (fun k=>(listed.setIfInBounds i true).getD k false) a' w'→K a' w'):wpOpIn (o6 ro) 0 C.P ops Q i K a w:=by
 obtain ⟨hun,o,ho,mM⟩:=mem_ready.1 hi
 have hilt:i < ops.size:=(ub.1 ho).1
 have pO:listed.getD i false=false:=by
  have hlt:i < listed.size:=by omega
  simp [hlt] at hun ⊢
  exact hun
 obtain ⟨hlen,dI⟩:=qm hm
 obtain ⟨it,hit,hcomp⟩:=dI i o (by simpa using ho)
 have hrl:=Qw hrun
 have hlo:items.length=ops.size:=by rw [hlen];simp
 have AA:i < recs.length:=by omega
 have hrc:recs[i]?=some recs[i]:=by simp
 generalize M8:recs[i]=rc at hrc
 obtain ⟨hop,fe,nI,hgd⟩:=wP hcomp
 obtain ⟨fy,iD,rG,AU,rH,hnext⟩:=Yb items st recs bF 0 hrun i it rc hit hrc
 simp only [uD] at AU rH
 have ox:∀ (j:Nat) (rj:Rec),recs[j]?=some rj→∃ oj,ops[j]?=some oj∧rj.dst=oj.dst:=fun j rj hj=>by
  have hjl:j < recs.length:=(ua.1 hj).1
  have iJ:ops[j]?=some (ops[j]'(by omega)):=by simp
  obtain ⟨M9,Dn,Na⟩:=dI j (ops[j]'(by omega)) (by rw [Array.getElem?_toList];exact iJ)
  obtain ⟨_,_,h3,_,_⟩:=Yb items st recs bF 0 hrun j M9 rj Dn hj
  exact ⟨_,iJ,by rw [h3];exact (wP Na).2.1⟩
 have lO:∀ j,dV (Region.before ops).toList j i=true→listed.getD j false=true:=fun j hb=>W3 hd dY i j o ho mM hb
 have gw:∀ j,i < j→j < ops.size→dV (Region.before ops).toList i j=true→listed.getD j false=false:=fun j hlt hj hb=>by
  cases hc:listed.getD j false with
  | false=>rfl
  | true=>
   have iJ:ops[j]?=some (ops[j]'(by omega)):=by simp
   have:=W3 hd dY j i _ iJ (fun e he nW=>dY j _ iJ hc e he nW) hb
   rw [pO] at this;cases this
 have nJ:∀ t,t∈o.looksAt ops→q6 recs (fun k=>listed.getD k false) 0 (zc st.env) t=zc fy.env t:=fun t ht=>by
  rw [AU]
  refine wG _ _ _ _ _ _ (fun j rj hj Gd => ?_) rfl
  simp only [uD]
  obtain ⟨oj,iJ,sO⟩:=ox j rj hj
  rw [sO] at Gd
  have hjl:j < ops.size:=(ub.1 iJ).1
  by_cases hji:j=i
  ·subst hji;rw [pO];simp
  ·have h2:=(JA hd iJ ho Gd hji).2 ht
   split at h2
   ·rename_i hlt;rw [lO j h2];simp [hlt]
   ·rename_i hge;rw [gw j (by omega) hjl h2];simp;omega
 have iR:∀ x,x∈rc.rd→qp recs (fun k=>listed.getD k false) 0 (zc st.heap) x=zc fy.heap x:=fun x hx=>by
  rw [rH]
  refine yE _ _ _ _ _ _ (fun j rj hj bK => ?_) rfl
  simp only [uD]
  have hjl:j < ops.size:=by have:=(ua.1 hj).1;omega
  by_cases hji:j=i
  ·subst hji;rw [pO];simp
  ·rcases uu j i with hlt | hge
   ·have hc:j9 rj rc=true:=by
     simp only [j9,ug,uB]
     exact .inl ⟨x,bK,.inl (by simpa using hx)⟩
    rw [lO j (Qv hmem hj hrc hlt hc)];simp [hlt]
   ·have hlt:i < j:=by omega
    have hc:j9 rc rj=true:=by
     simp only [j9,ug,uB]
     exact .inr ⟨x,bK,by simpa using hx⟩
    rw [gw j hlt hjl (Qv hmem hrc hj hlt hc)];simp;omega
 obtain ⟨g,R,E,hts,hdf,fI⟩:=hI
 have fS:(fun k=>(listed.setIfInBounds i true).getD k false)=yd (fun k=>listed.getD k false) i:=by
  funext k
  simp only [yd]
  by_cases e:k=i
  ·subst e;rw [if_pos rfl];have:k < listed.size:=by omega
   simp [this]
  ·rw [if_neg e];exact getD_set_ne false (fun h=>e h.symm)
 have mN:qp recs (yd (fun k=>listed.getD k false) i) 0 (zc st.heap)=bK rc.aQ (qp recs (fun k=>listed.getD k false) 0 (zc st.heap)):=by
  funext x
  have:=Y8 recs (fun k=>listed.getD k false) 0 i rc (zc st.heap) x hrc (fun j rj hj hlt hL y hy hy'=>by
   simp only [uD] at hL
   have hjl:j < ops.size:=by have:=(ua.1 hj).1;omega
   have hc:j9 rc rj=true:=by
    simp only [j9,ug,uB]
    exact .inl ⟨y,hy,.inr (by simpa using hy')⟩
   rw [gw j hlt hjl (Qv hmem hrc hj hlt hc)] at hL
   cases hL) (by simpa using pO)
  simpa using this
 have sP:∀ t,q6 recs (yd (fun k=>listed.getD k false) i) 0 (zc st.env) t=vK (q6 recs (fun k=>listed.getD k false) 0 (zc st.env)) rc.dst rc.r t:=fun t=>by
  have:=Y7 recs (fun k=>listed.getD k false) 0 i rc (zc st.env) t hrc (fun j rj d hj hne hdd=>by
   obtain ⟨oj,iJ,sO⟩:=ox j rj hj
   rw [sO]
   refine (JA hd ho iJ ?_ (fun e=>hne e.symm)).1
   rw [←hdd,rG,fe]) (by simpa using pO)
  simpa using this
 have finish:∀ (v:Value) (w':World) (g':Gh),b9 g (qp recs (fun k=>listed.getD k false) 0 (zc st.heap)) (NS st.next recs fun k=>listed.getD k false) w g' (bK rc.aQ (qp recs (fun k=>listed.getD k false) 0 (zc st.heap))) (xt (qo (NS st.next recs fun k=>listed.getD k false) (st.next+i)) rc.ex) w' →
   RH C g' (bK rc.aQ (qp recs (fun k=>listed.getD k false) 0 (zc st.heap))) (xt (qo (NS st.next recs fun k=>listed.getD k false) (st.next+i)) rc.ex) w' →
   RV C g' (bK rc.aQ (qp recs (fun k=>listed.getD k false) 0 (zc st.heap))) (xt (qo (NS st.next recs fun k=>listed.getD k false) (st.next+i)) rc.ex) w' rc.r v→K (a.put o.dst v) w':=fun v w' g' E' R' hv=>by
  refine hK _ _ ?_
  rw [fS]
  refine ⟨g',?_,?_,?_,?_,fun t x hx => ?_⟩
  ·rw [mN,Dm _ _ _ hrc];exact R'
  ·rw [mN,Dm _ _ _ hrc];exact E.trans E'
  ·cases o.dst<;>simp [Act.put,hts]
  ·have hm':=hdf.eS E'
   cases o.dst<;>exact hm'
  ·rw [mN,Dm _ _ _ hrc]
   rw [sP,rG,fe] at hx
   cases Dp:o.dst with
   | none=>
    rw [Dp] at hx
    simp only [vK] at hx
    exact (fI t x hx).mono E'
   | some d=>
    rw [Dp] at hx
    simp only [vK] at hx
    rw [FY a d v t (by rw [hts];exact nI d Dp)]
    split at hx
    ·rename_i e;rw [if_pos e];cases hx;exact hv
    ·rename_i e;rw [if_neg e];exact (fI t x hx).mono E'
 have hfresh:¬ NS st.next recs (fun k=>listed.getD k false) (st.next+i):=M5 hex pO AA
 have Nb:∀ k,listed.getD k false=true→k < recs.length:=fun k hk=>by
  rcases uu k listed.size with h | h
  ·omega
  ·rw [un,ul h] at hk;cases hk
 have pP:∀ x∈rc.ex,¬ NS st.next recs (fun k=>listed.getD k false) x:=M6 hex Nb pO hrc
 have sQ:rc.ex=[]→xt (qo (NS st.next recs fun k=>listed.getD k false) (st.next+i)) rc.ex=qo (NS st.next recs fun k=>listed.getD k false) (st.next+i):=fun h=>by rw [h,Jz]
 have oy:∀ t,t∈o.looksAt ops→RV C g (qp recs (fun k=>listed.getD k false) 0 (zc st.heap)) (NS st.next recs fun k=>listed.getD k false) w ((zc fy.env t).getD .top) (a.tmps.getD t undef):=fun t ht=>by
  rw [←nJ t ht]
  cases hs:q6 recs (fun k=>listed.getD k false) 0 (zc st.env) t with
  | none=>exact .top _
  | some x=>exact fI t x hs
 have rI:∀ x∈o.op.operands,RV C g (qp recs (fun k=>listed.getD k false) 0 (zc st.heap)) (NS st.next recs fun k=>listed.getD k false) w (zd fy.env (C.bt x)) (a.eval x):=fun x hx=>by
  cases x with
  | tmp t=>
   refine oy t ?_
   simp only [Oper.looksAt,uP,List.mem_filterMap]
   exact .inl ⟨.tmp t,by simpa using hx,rfl⟩
  | const v=>exact wV v
  | global gg=>exact .top _
  | func f=>
   simp only [Ctx.bt]
   split
   ·rename_i k hk
    have:=RV.func (C:=C) (g:=g) (h:=qp recs (fun k=>listed.getD k false) 0 (zc st.heap)) (N:=NS st.next recs fun k=>listed.getD k false) (w:=w) k [] [] [] [] rfl rfl (fun j c v hj=>by simp at hj) (fun j c v hj=>by simp at hj)
    rw [ky hk] at this
    exact this
   ·exact .top _
 have lQ:∀ b,qc fy.env it.guard=some b→Region.wanted o (yielded ops a.tmps)=b:=fun b hg=>by
  rcases hgd with ⟨h1,h2⟩ | ⟨j,want,t,h1,h2,h3,h4⟩
  ·rw [h2] at hg
   simp only [qc,Option.some.injEq] at hg
   subst hg
   simp [Region.wanted,h1]
  ·rw [h4] at hg
   simp only [qc] at hg
   simp only [Region.wanted,h1,yielded,h2,aS]
   have hlt:t < a.tmps.size:=by rw [hts];exact h3
   have hv:=oy t (by simp only [Oper.looksAt,uP];exact .inr (by simp [h1,h2]))
   have AW:a.tmps[t]?=some (a.tmps.getD t undef):=by simp [hlt]
   rw [AW]
   split at hg
   ·rename_i b' e
    rw [e] at hv
    cases hg
    rw [vg hv]
    cases b'<;>cases want<;>rfl
   ·rename_i e
    rw [e] at hv
    cases hg
    generalize a.tmps.getD t undef=u at hv
    cases hv
    cases want<;>rfl
   ·cases hg
 unfold wpOpIn
 simp only [ho]
 unfold nw at iD
 split at iD
 ·rename_i hg
  rw [lQ false hg]
  simp only [uk,if_false]
  obtain ⟨h1,h2,h3⟩:=iD
  refine ⟨fun f _=>ZW _ f,?_⟩
  have hE:=b9.add g (qp recs (fun k=>listed.getD k false) 0 (zc st.heap)) (NS st.next recs fun k=>listed.getD k false) w (st.next+i)
  refine finish undef w g ?_ ?_ ?_
  ·rw [h2,sQ h3];exact hE
  ·rw [h2,sQ h3];exact R.add _
  ·rw [h1];exact .undef
 ·rename_i hg
  rw [lQ true hg]
  simp only [if_true]
  refine ⟨fun f _=>ZW _ f,?_⟩
  split at iD
  ·rename_i f args gC
   rw [gC] at hop
   obtain ⟨cJ,S,rfl⟩:=X5 hop
   obtain ⟨cc,oq⟩:=S.gp
   split at iD
   ·rename_i f' first bC Ab
    obtain ⟨gq,mK⟩:=iD
    obtain ⟨vf,vc,ot,ou⟩:=WW rI S Ab
    have AX:=ou w gq
    rw [Oper.semAt_eq _ _ _ (fun c hc=>by rw [oq] at hc;cases hc),AX]
    simp only [Oper.uponIn]
    refine ⟨fun h=>(by rw [Jw] at h;cases h),Y3 ?_⟩
    have mL:vf.toArray++cJ.map a.eval++vc.toArray=(vf++cJ.toList.map a.eval++vc).toArray:=by apply uJ;simp
    rw [mL]
    refine (mK g _ _ w _ iR pP R ot).mono ?_
    rintro e w' ⟨v,g',rfl,E',R',hv⟩
    have hE:=b9.add g' (bK rc.aQ (qp recs (fun k=>listed.getD k false) 0 (zc st.heap))) (xt (NS st.next recs fun k=>listed.getD k false) rc.ex) w' (st.next+i)
    have Nc:qo (xt (NS st.next recs fun k=>listed.getD k false) rc.ex) (st.next+i)=xt (qo (NS st.next recs fun k=>listed.getD k false) (st.next+i)) rc.ex:=by
     funext x;simp only [qo,xt,eq_iff_iff]
     constructor
     ·rintro ((h | h) | h)
      ·exact .inl (.inl h)
      ·exact .inr h
      ·exact .inl (.inr h)
     ·rintro ((h | h) | h)
      ·exact .inl (.inl h)
      ·exact .inr h
      ·exact .inl (.inr h)
    have hR:=R'.add (st.next+i)
    have hV:=hv.mono hE
    rw [Nc] at hE hR hV
    exact finish v w' g' (E'.trans hE) hR hV
   ·exact iD.elim
  ·rename_i sL
   obtain ⟨Dq,hrd,Dr⟩:=iD
   have Dt:ap it.op (zd fy.env) (qp recs (fun k=>listed.getD k false) 0 (zc st.heap)) (st.next+i)=some (rc.r,rc.aQ):=by
    rw [M0 (h:=zc fy.heap) (fun x hx=>iR x (by rw [hrd];exact hx)),←hnext]
    exact Dq
   obtain ⟨v,w',hU,g',E',R',hv⟩:=FW hop g _ _ w (st.next+i) (zd fy.env) a.eval rc.r rc.aQ R hfresh rI Dt
   rw [Oper.semAt_eq _ _ _ (fun c hc=>by rw [hc] at hop;simp [yO] at hop)]
   rw [←sQ Dr] at E' R' hv
   rcases hU with hU | ⟨hU,rfl⟩
   ·rw [hU];exact finish v w' g' E' R' hv
   ·rw [hU];exact finish undef w' g' E' R' hv
 ·exact iD.elim
theorem Zy (n k:Nat):(um n false).getD k false=false:=by
 rw [un,Array.getElem?_replicate]
 split<;>rfl
theorem Nd {listed:Array Bool} {i:Nat} (h:i < listed.size) (hf:listed.getD i false=false):((listed.setIfInBounds i true).toList.countP (· == false))+1=listed.toList.countP (· == false):=by
 have hl:i < listed.toList.length:=by simpa using h
 have hv:listed.toList[i]=false:=by simpa [h] using hf
 rw [Array.toList_setIfInBounds,List.countP_set hl]
 have hp:0 < listed.toList.countP (· == false):=uI.2 ⟨listed.toList[i],uo hl,by simp [hv]⟩
 simp only [hv]
 have e1:((false == false)=true):=rfl
 have e2:¬ ((true == false)=true):=by simp
 rw [if_pos e1,if_neg e2]
 omega
theorem Nf {ops:Array Oper} {items:List bh} {recs:List Rec} {st bF:St} {g0:Gh} {w0:World} (hm:aY (xH C nt.n ops) ops.toList=some items) (hrun:ZM C items st recs bF)
  (hd:vH ops (Region.before ops).toList=true) (hmem:Qu (Region.before ops).toList recs=true) (hex:Yc st.next recs) {Q:Exit→Act→World→Prop}
  (hQ:∀ (L:Nat→Bool) a w,(∀ k,L k=decide (k < ops.size))→AT C nt recs g0 st w0 L a w→Q .normal a w) :
  ∀ (fuel:Nat) (listed:Array Bool) (a:Act) (w:World),listed.size=ops.size→W0 ops listed→listed.toList.countP (· == false)≤fuel→AT C nt recs g0 st w0 (fun k=>listed.getD k false) a w →
   wpAnyIn (o6 ro) 0 C.P .any ops Q fuel listed a w:=by
 have done:∀ (listed:Array Bool) (a:Act) (w:World),listed.size=ops.size→(∀ k,k < ops.size→listed.getD k false=true)→AT C nt recs g0 st w0 (fun k=>listed.getD k false) a w→Q .normal a w:=fun listed a w hsz hall hI=>
  hQ _ a w (fun k=>by
   by_cases hk:k < ops.size
   ·rw [hall k hk];simp [hk]
   ·have:¬ k < listed.size:=by omega
    simp [hk,this]) hI
 have AY:∀ (listed:Array Bool),listed.size=ops.size→W0 ops listed→Region.ready .any ops listed=[]→∀ k,k < ops.size→listed.getD k false=true:=fun listed hsz dY hr k=>by
  induction k using uE with
  | _ k ih=>
   intro hk
   cases hc:listed.getD k false with
   | true=>rfl
   | false=>
    have hok:ops[k]?=some (ops[k]'(by omega)):=by simp
    have:k∈Region.ready .any ops listed:=by
     rw [mem_ready]
     refine ⟨?_,_,hok,fun e he hb=>ih e.on (Za hd hok he hb) (by have:=Za hd hok he hb;omega)⟩
     have hlt:k < listed.size:=by omega
     simp [hlt] at hc ⊢
     exact hc
    rw [hr] at this
    cases this
 intro fuel
 induction fuel with
 | zero=>
  intro listed a w hsz dY lg hI
  have hall:∀ k,k < ops.size→listed.getD k false=true:=fun k hk=>by
   cases hc:listed.getD k false with
   | true=>rfl
   | false=>
    have hlt:k < listed.toList.length:=by simp;omega
    have hv:listed.toList[k]=false:=by
     have hlt':k < listed.size:=by omega
     simpa [hlt'] using hc
    have:0 < listed.toList.countP (· == false):=uI.2 ⟨listed.toList[k],uo hlt,by simp [hv]⟩
    omega
  refine ⟨?_,done listed a w hsz hall hI⟩
  rw [List.eq_nil_iff_forall_not_mem]
  intro k hk
  obtain ⟨hun,o,ho,_⟩:=mem_ready.1 hk
  have ia:k < ops.size:=(ub.1 ho).1
  have:=hall k ia
  have hlt:k < listed.size:=by omega
  simp [hlt] at hun this
  rw [hun] at this
  cases this
 | succ fuel ih=>
  intro listed a w hsz dY lg hI
  refine ⟨fun hr=>done listed a w hsz (AY listed hsz dY hr) hI,fun i hi => ?_⟩
  obtain ⟨hun,o,ho,mM⟩:=mem_ready.1 hi
  have rF:i < ops.size:=(ub.1 ho).1
  have pO:listed.getD i false=false:=by
   have hlt:i < listed.size:=by omega
   simp [hlt] at hun ⊢
   exact hun
  refine M7 hm hrun hd hmem hex hsz dY hi hI fun a' w' Ng=>ih _ a' w' (by simpa using hsz) ?_ ?_ Ng
  ·intro j oj iJ hl e he hb
   by_cases hji:j=i
   ·subst hji
    rw [ho] at iJ
    cases iJ
    exact getD_set_true (mM e he hb)
   ·rw [getD_set_ne false (fun h=>hji h.symm)] at hl
    exact getD_set_true (dY j oj iJ hl e he hb)
  ·have:=Nd (listed:=listed) (by omega) pO
   omega
theorem Wn {C:bY} {ord:List Nat} {items:List bh} {ks:Option (List Nat)} {K:Exit→St→Prop} {st bF:St} {recs:List Rec} (hrun:ZM C items st recs bF) (hmem:Qu ord recs=true) (hex:Yc st.next recs) (M:Nat) (hM:bF.next≤M) (Nh:∀ rc∈recs,∀ i∈rc.ex,i < M) (hK:K .normal (St.keep ⟨bF.env,bF.heap,M⟩ ks)) :
  dF C nt (.region true ord items ks) K st:=by
 intro code hc g a w R hI
 obtain ⟨id,ops,rfl,hm,AZ⟩:=X6 hc
 obtain ⟨Du,rfl,hd⟩:=AZ rfl
 obtain ⟨hlen,_⟩:=qm hm
 have hlo:items.length=ops.size:=by rw [hlen];simp
 refine wpIn_region_any Du (Nf (g0:=g) (w0:=w) hm hrun hd hmem hex ?_ ops.size _ a w.drew (by simp) ?_ (by simp [List.countP_replicate]) ?_)
 ·intro L a' w' hL hI
  obtain ⟨g',R',E',hts,hdf,fI⟩:=hI
  obtain ⟨h1,h2,h3⟩:=Wm items st recs bF 0 L hrun (fun j hj=>by rw [hL];simp;omega)
  have hrl:=Qw hrun
  have hN:∀ x,NS st.next recs L x→x < M:=by
   rintro x (h | ⟨k,hk,rfl⟩ | ⟨k,rc,hk,h4,h5⟩)
   ·omega
   ·rw [hL] at hk;simp at hk;omega
   ·exact Nh rc (uc h4) x h5
  rw [←h2] at R' E' fI
  rw [←h1] at fI
  have EN:b9 g' (zc bF.heap) (NS st.next recs L) w' g' (zc bF.heap) (· < M) w':={b9.refl g' (zc bF.heap) (NS st.next recs L) w' with next:=hN}
  have R2:RH C g' (zc bF.heap) (· < M) w':=⟨R'.inj,fun i b hb=>⟨(R'.lt i b hb).1,hN i (R'.lt i b hb).2⟩,fun i o ho=>hN i (R'.key i o ho),fun i b o hb ho=>(R'.obj i b o hb ho).keep EN rfl rfl,R'.cP,R'.ed,R'.fix⟩
  have Rel':Rel C nt g' ⟨bF.env,bF.heap,M⟩ a' w':=⟨⟨hts,hdf,fun t x hx=>(fI t x hx).mono EN⟩,R2⟩
  refine ⟨_,g',hK,Rel'.keep ks,?_⟩
  have:=E'.trans EN
  cases ks<;>exact this
 ·intro j o ho hl
  rw [Zy] at hl;cases hl
 ·have hN:NS st.next recs (fun k=>(um ops.size false).getD k false)=(· < st.next):=by
   funext x
   simp only [NS,eq_iff_iff]
   constructor
   ·rintro (h | ⟨k,hk,rfl⟩ | ⟨k,rc,hk,_,_⟩)
    ·exact h
    ·rw [Zy] at hk;cases hk
    ·rw [Zy] at hk;cases hk
   ·exact .inl
  have hL:(fun k=>(um ops.size false).getD k false)=fun _=>false:=by funext k;exact Zy _ _
  have hs:∀ (l:List Rec) (k:Nat) (f:Nat→Option AV),q6 l (fun _=>false) k f=f:=by
   intro l
   induction l with
   | nil=>intro k f;rfl
   | cons r l ih=>intro k f;simp [q6,ih]
  have hh:∀ (l:List Rec) (k:Nat) (f:Nat→Option aI),qp l (fun _=>false) k f=f:=by
   intro l
   induction l with
   | nil=>intro k f;rfl
   | cons r l ih=>intro k f;simp [qp,ih]
  have hE:=b9.drew g (zc st.heap) (· < st.next) w
  rw [hL] at hN
  rw [hL]
  refine ⟨g,?_,?_,R.env.size,R.env.defers,fun t x hx => ?_⟩
  ·rw [hh,hN];exact R.heap.drew
  ·rw [hh,hN];exact hE
  ·rw [hs] at hx
   rw [hh,hN]
   exact (R.env.slot t x hx).mono hE
end
end
end Go.Proofs.YtcmmhbmgpflmeaaGreatDoor
