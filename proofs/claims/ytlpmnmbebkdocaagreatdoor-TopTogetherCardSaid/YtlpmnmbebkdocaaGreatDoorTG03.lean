/-
  The abstract machine: what code asks of an abstract state, and the rules.
  The abstract machine: the rules for code.
  The abstract machine: calls; entering a function.
  The abstract machine: entering a function.
  The abstract machine: forgetting slots, objects and names.
  The abstract machine: regions that draw their order. The text's order serves every order that the edges allow.
  The abstract machine: regions that draw their order, the theorem.
  The abstract machine: the rule for regions that draw their order.
-/
import Derived.Test.YtlpmnmbebkdocaaGreatDoorTG02
import Derived.RangeFuncSeq
import Derived.RangeFuncCalls
import Derived.OrdersIn
import Derived.TacticsIn
import Derived.Deep.LoopGhost
import Derived.Scope
open List renaming getElem?_eq_some_iff → ua, mem_of_getElem? → uc, all_eq_true → ue, getElem?_eq_getElem → ui, getElem_mem → uq, getElem?_map → uu, mem_cons_self → uz, getElem?_take_of_lt → uA, mem_cons → uB, any_eq_true → uC, length_eq_one_iff → uD, getElem?_append → uG, mem_cons_of_mem → uH, countP_pos_iff → uJ, getElem?_drop → uL, filter_cons → uO, mem_append → uQ, map_cons → uR, range → uW
open Option renaming map_eq_some_iff → ud
open Bool renaming or_eq_true → uh, and_eq_true → uj, false_eq_true → ul, not_eq_true' → uN
open Nat renaming lt_of_lt_of_le → ug, le_refl → uk, eq_zero_or_pos → ur, pos_of_ne_zero → ut, lt_or_ge → uv, add_zero → uw, le_max_right → ux, le_max_left → uy, zero_add → uE, strongRecOn → uF, zero_lt_one → uP, sub_zero → uS, le_trans → uT, succ_mul → uU, add_mul → uV
open Array renaming getElem?_eq_some_iff → ub, getElem?_eq_none → um, replicate → un, getD_eq_getD_getElem? → uo, getElem?_push → uI, ext' → uK, foldl_toList → uM
namespace Go.Proofs.YtlpmnmbebkdocaaGreatDoor
open Go.RowKit
set_option linter.unusedSimpArgs false
set_option linter.unusedVariables false
section
def yh (C : Ctx) (f : Nat) : Prop := ∃ fn, C.P.funcs[C.ez f]? = some fn ∧ fn.body.isSome = true ∧ (fn.name == "runtime.NumGoroutine") = false
def Np (Z:Nat→Nat) (w:World) (xs:List IV) (vs:List Value):Prop:=ij Z w xs vs
def aJ (C:Ctx) (f:Nat) (args:List IV) (r:IV):Prop:=yh C f ∧
 ∀ (Z:Nat→Nat) (w:World) (vs:List Value),(∀ b,0 < Z b→b < w.heap.size)→(C.tabs.p w∧C.tabs.n≤w.heap.size)→Np Z w args vs →
  Calls C.P (C.ez f) vs.toArray w fun e w'=>∃ v Z',e=.returned v∧RI Z' w' r v∧(∀ b,b < w.heap.size→Z' b=Z b)∧(∀ b,0 < Z' b→b < w'.heap.size)∧Below w.heap.size w w'
def nG (C:Ctx) (g:Gh) (h:Nat→Option aD) (N:Nat→Prop) (w:World) (xs:List AV) (vs:List Value):Prop:=
 xs.length=vs.length∧∀ (j:Nat) (x:AV) (u:Value),xs[j]?=some x→vs[j]?=some u→RV C g h N w x u
def bH (C:Ctx) (f:Nat) (args:List AV) (heap:List (Nat×aD)) (next:Nat) (K:AV→List (Nat×aD)→Nat→Prop):Prop:=yh C f ∧
 ∀ (g:Gh) (w:World) (vs:List Value),RH C g (za heap) (· < next) w→nG C g (za heap) (· < next) w args vs →
  Calls C.P (C.ez f) vs.toArray w fun e w'=>∃ v r heap' next' g',e=.returned v∧K r heap' next' ∧
   bV g (za heap) (· < next) w g' (za heap') (· < next') w'∧RH C g' (za heap') (· < next') w'∧RV C g' (za heap') (· < next') w' r v
structure bz extends Ctx where
 ro:Option Nat
 eR:Option (Gh×St×World)
 Y:Nat→Nat→List AV→List (Nat×aD)→Nat→(AV→List (Nat×aD)→Nat→Prop)→Prop
 n8:∀ l id args heap next (K K':AV→List (Nat×aD)→Nat→Prop),(∀ r h n,K r h n→K' r h n)→Y l id args heap next K→Y l id args heap next K'
 CV:∀ l id args heap next K,Y l id args heap next K→∀ (g:Gh) (w:World) (vs:List Value),RH toCtx g (za heap) (· < next) w→nG toCtx g (za heap) (· < next) w args vs→(∀ R s pe,za heap id=some (.lp l R s pe)→g.ρ id=some l) →
  (match eR with | none=>True | some (g0,cM,w0)=>bV g0 (za cM.heap) (· < cM.next) w0 g (za heap) (· < next) w) →
  YieldAt Fence.wide 0 P l vs.toArray w fun e w'=>∃ v r heap' next' g',e=.returned v∧K r heap' next' ∧
   bV g (za heap) (· < next) w g' (za heap') (· < next') w'∧RH toCtx g' (za heap') (· < next') w'∧RV toCtx g' (za heap') (· < next') w' r v
instance:Coe bz Ctx:=⟨bz.toCtx⟩
def tK:Nat→Nat→List AV→List (Nat×aD)→Nat→(AV→List (Nat×aD)→Nat→Prop)→Prop:=fun _ _ _ _ _ _=>False
def Ctx.plain (C:Ctx):bz:={C with ro:=none,eR:=none,Y:=tK,n8:=fun _ _ _ _ _ _ _ _ h=>h,CV:=fun _ _ _ _ _ _ h=>h.elim}
def bz.inv (C:bz) (g:Gh) (st:St) (w:World):Prop:=match C.eR with
 | none=>True
 | some (g0,cM,w0)=>bV g0 (za cM.heap) (· < cM.next) w0 g (za st.heap) (· < st.next) w
theorem bz.inv.eN {C:bz} {g g':Gh} {st aX:St} {w w':World} (h:C.inv g st w) (E:bV g (za st.heap) (· < st.next) w g' (za aX.heap) (· < aX.next) w'):C.inv g' aX w':=by
 unfold bz.inv at *
 split
 ·trivial
 ·rename_i e;rw [e] at h;exact bV.trans h E
def oZ:Option Nat→Fence
 | none=>Fence.wide
 | some l=>Fence.wide.inRound l
theorem Qx (ro:Option Nat) (f:FuncId):(oZ ro).fn f:=by cases ro<;>trivial
theorem J0 (ro:Option Nat):(oZ ro).depth=none:=by cases ro<;>rfl
theorem KN {ro:Option Nat} {n:Nat} {P:Program} {f:FuncId} {args:Array Value} {w:World} {R:Ending→World→Prop} (h:Calls P f args w R):CallsIn (oZ ro) n P f args w R:=by
 cases ro with
 | none=>exact callsIn_wide.2 h
 | some l=>exact CallsIn.inRound l (callsIn_wide.2 h)
theorem Nq {ro:Option Nat} {n:Nat} {P:Program} {l:Nat} {f:FuncId} {tmps:Array Value} {assign body:Code} {w:World} {R:Ending→World→Prop} (h:RoundIn Fence.wide n P l f tmps assign body w R):RoundIn (oZ ro) n P l f tmps assign body w R:=by
 cases ro<;>exact h
def qT:Nat:=999999
def zo {α:Type}:List (Nat×α)→Nat→α→List (Nat×α)
 | [],i,x=>[(i,x)]
 | (k,v)::r,i,x=>if k=i then (i,x)::r else if k=qT then (i,x)::(k,v)::r else (k,v)::zo r i x
theorem zr {α:Type} (l:List (Nat×α)) (i:Nat) (x:α) (j:Nat):za (zo l i x) j=if i=j then some x else za l j:=by
 induction l with
 | nil=>simp [zo,za]
 | cons p r ih=>
  obtain ⟨k,v⟩:=p
  simp only [zo]
  split
  ·rename_i hk
   subst hk
   simp only [za]
   split<;>rfl
  ·rename_i hk
   split
   ·simp only [za]
   ·simp only [za,ih]
    split
    ·rename_i hkj
     rw [if_neg (by omega)]
    ·rfl
def zL:List (Nat×aD)→List (Nat×aD)→List (Nat×aD)
 | [],heap=>heap
 | (k,o)::r,heap=>zo (zL r heap) k o
theorem jL (aN heap:List (Nat×aD)):za (zL aN heap)=bA aN (za heap):=by
 induction aN with
 | nil=>rfl
 | cons p r ih=>
  obtain ⟨k,o⟩:=p
  funext i
  simp only [zL,bA,zr,ih]
def St.put (st:St) (dst:Option Nat) (r:AV):St:=match dst with
 | some t=>{st with env:=zk st.env t r}
 | none=>st
def St.after (st:St) (dst:Option Nat) (r:AV) (aN:List (Nat×aD)):St:=
 St.put {st with heap:=zL aN st.heap,next:=st.next+1} dst r
def z8 (env:List (Nat×AV)):Option (Nat×Bool)→Option Bool
 | none=>some true
 | some (t,want)=>match (za env t).getD .top with
  | .ap (.bool b)=>some (b == want)
  | .undef=>some false
  | _=>none
def vL (C:bz) (it:aM) (st:St) (K:St→Prop):Prop:=
 match z8 st.env it.guard with
 | some false=>K (st.after it.dst .undef [])
 | some true=>match it.op with
  | .call f args=>match zd st.env f with
   | .func f' first bt=>bH C f' (first++args.map (zd st.env)++bt) st.heap st.next fun r heap' next'=>K (St.put {env:=st.env,heap:=heap',next:=next'+1} it.dst r)
   | .eH l id=>C.Y l id (args.map (zd st.env)) st.heap st.next fun r heap' next'=>K (St.put {env:=st.env,heap:=heap',next:=next'+1} it.dst r)
   | _=>False
  | op=>match ai op (zd st.env) (za st.heap) st.next with
   | some (r,aN)=>K (st.after it.dst r aN)
   | none=>False
 | none=>False
def AA (C:bz):List aM→(St→Prop)→St→Prop
 | [],K,st=>K st
 | it::rest,K,st=>vL C it st (AA C rest K)
section
variable {C:Ctx} {nt:Fr} {g g':Gh} {st aX:St} {a:Act} {w w':World}
def dF (g:Gh) (st:St) (w:World) (g':Gh) (aX:St) (w':World):Prop:=bV g (za st.heap) (· < st.next) w g' (za aX.heap) (· < aX.next) w'
theorem dF.refl (g:Gh) (st:St) (w:World):dF g st w g st w:=bV.refl _ _ _ _
theorem dF.trans {g₁ g₂ g₃:Gh} {s₁ s₂ s₃:St} {w₁ w₂ w₃:World} (A:dF g₁ s₁ w₁ g₂ s₂ w₂) (B:dF g₂ s₂ w₂ g₃ s₃ w₃):dF g₁ s₁ w₁ g₃ s₃ w₃:=bV.trans A B
theorem FI (a:Act) (d:Nat) (v:Value) (t:Nat) (hd:d < a.tmps.size):(a.put (some d) v).tmps.getD t undef=if d=t then v else a.tmps.getD t undef:=by
 simp only [Act.put]
 by_cases h:d=t
 ·subst h;simp [hd]
 ·rw [if_neg h];simp [Array.getElem?_setIfInBounds_ne h]
theorem RE.put {env:List (Nat×AV)} {h:Nat→Option aD} {N:Nat→Prop} (R:RE C nt g env h N a w) (d:Nat) (hd:d < nt.n) {x:AV} {v:Value} (hx:RV C g h N w x v):RE C nt g (zk env d x) h N (a.put (some d) v) w:=by
 refine ⟨by simp [Act.put,R.size],R.defers,fun t y hy => ?_⟩
 rw [FI a d v t (by rw [R.size];exact hd)]
 rw [zm] at hy
 split at hy
 ·rename_i e;rw [if_pos e];cases hy;exact hx
 ·rename_i e;rw [if_neg e];exact R.slot t y hy
theorem Rel.put (R:Rel C nt g st a w) (dst:Option Nat) (hd:∀ d,dst=some d→d < nt.n) {x:AV} {v:Value} (hx:RV C g (za st.heap) (· < st.next) w x v) :
  Rel C nt g (st.put dst x) (a.put dst v) w:=by
 cases dst with
 | none=>exact R
 | some d=>exact ⟨R.env.put d (hd d rfl) hx,R.heap⟩
theorem jW (n:Nat):qj (· < n) n=(· < n+1):=by
 funext i
 simp only [qj,eq_iff_iff]
 omega
theorem RE.mono {env:List (Nat×AV)} {h h':Nat→Option aD} {N N':Nat→Prop} (R:RE C nt g env h N a w) (E:bV g h N w g' h' N' w'):RE C nt g' env h' N' a w':=
 ⟨R.size,R.defers.eN E,fun t x hx=>(R.slot t x hx).mono E⟩
theorem KO (R:Rel C nt g st a w) {dst:Option Nat} (hd:∀ d,dst=some d→d < nt.n) {r:AV} {aN:List (Nat×aD)} {v:Value} (hg:Good C g (za st.heap) (· < st.next) w st.next r aN v w') :
  ∃ g',Rel C nt g' (st.after dst r aN) (a.put dst v) w'∧dF g st w g' (st.after dst r aN) w':=by
 obtain ⟨g',E,H,hv⟩:=hg
 rw [jW] at E H hv
 rw [←jL] at E H hv
 refine ⟨g',?_,?_⟩
 ·have R':Rel C nt g' {st with heap:=zL aN st.heap,next:=st.next+1} a w':=⟨R.env.mono E,H⟩
  exact R'.put dst hd hv
 ·cases dst<;>exact E
theorem Zq (R:Rel C nt g st a w) (x:Operand):RV C g (za st.heap) (· < st.next) w (zd st.env (C.bl x)) (a.eval x):=by
 cases x with
 | tmp t=>
  simp only [Ctx.bl,zd,Act.eval]
  cases h:za st.env t with
  | none=>exact .top _
  | some y=>exact R.env.slot t y h
 | const v=>exact vg v
 | global gg=>exact .top _
 | func f=>
  simp only [Ctx.bl]
  split
  ·rename_i i hi
   have:=RV.func (C:=C) (g:=g) (h:=za st.heap) (N:=(· < st.next)) (w:=w) i [] [] [] [] rfl rfl (fun j c v hj=>by simp at hj) (fun j c v hj=>by simp at hj)
   rw [kM hi] at this
   exact this
  ·exact .top _
theorem wR {ops:Array Oper} {o:Oper} {it:aM} (hc:xv C nt.n ops o=some it):yU C o.op=some it.op∧it.dst=o.dst∧(∀ d,o.dst=some d→d < nt.n) ∧
  ((o.guard=none∧it.guard=none)∨∃ j want t,o.guard=some (j,want)∧(ops[j]?).bind (·.dst)=some t∧t < nt.n∧it.guard=some (t,want)):=by
 unfold xv at hc
 split at hc
 ·rename_i ao hao
  split at hc
  ·rename_i hd
   have BN:∀ d,o.dst=some d→d < nt.n:=fun d h=>by simpa [h,FH] using hd
   split at hc
   ·rename_i hg;cases hc;exact ⟨hao,rfl,BN,.inl ⟨hg,rfl⟩⟩
   ·rename_i j want hg
    split at hc
    ·rename_i t ht
     split at hc
     ·rename_i o3;cases hc;exact ⟨hao,rfl,BN,.inr ⟨j,want,t,hg,ht,o3,rfl⟩⟩
     ·cases hc
    ·cases hc
  ·cases hc
 ·cases hc
theorem J1 (R:Rel C nt g st a w) {ops:Array Oper} {o:Oper} {it:aM} (hc:xv C nt.n ops o=some it) {b:Bool} (hg:z8 st.env it.guard=some b) :
  Region.wanted o (yielded ops a.tmps)=b:=by
 obtain ⟨_,_,_,hgd⟩:=wR hc
 rcases hgd with ⟨h1,h2⟩ | ⟨j,want,t,h1,h2,h3,h4⟩
 ·rw [h2] at hg
  simp only [z8,Option.some.injEq] at hg
  subst hg
  simp [Region.wanted,h1]
 ·rw [h4] at hg
  simp only [z8] at hg
  simp only [Region.wanted,h1,yielded,h2,bf]
  have hlt:t < a.tmps.size:=by rw [R.env.size];exact h3
  cases hs:za st.env t with
  | none=>simp [hs] at hg
  | some x=>
   have hv:=R.env.slot t x hs
   simp only [hs,Option.getD_some] at hg
   have cZ:a.tmps[t]?=some (a.tmps.getD t undef):=by simp [hlt]
   rw [cZ]
   split at hg
   ·rename_i b'
    cases hg
    rw [vl hv]
    cases b'<;>cases want<;>rfl
   ·cases hg
    generalize a.tmps.getD t undef=u at hv
    cases hv
    cases want<;>rfl
   ·cases hg
inductive eJ (C:Ctx) (o:Op) (f:aZ) (cH:Array Operand):Prop where
 | value (fo:Operand) (ts:Array TypeId) (ho:o=.call {callee:=.value fo,args:=cH,argTypes:=ts}) (hf:f=C.bl fo)
 | inv (r:Nat) (name:String) (ts:Array TypeId) (ho:o=.call {callee:=.invoke (.tmp r) name,args:=cH,argTypes:=ts}) (hf:f=.m r (yd C.P C.mr name C.ifs))
theorem WH {o:Op} {f:aZ} {args:List aZ} (hc:yU C o=some (.call f args)):∃ cH,eJ C o f cH∧args=cH.toList.map C.bl:=by
 unfold yU at hc
 split at hc
 all_goals first
  | (cases hc;done)
  | (simp only [Option.some.injEq,cO.call.injEq] at hc;obtain ⟨rfl,rfl⟩:=hc;first | exact ⟨_,.value _ _ rfl rfl,rfl⟩ | exact ⟨_,.inv _ _ _ rfl rfl,rfl⟩)
  | (repeat' split at hc)<;>(cases hc;done)
  | (unfold XZ at hc;(repeat' split at hc)<;>(cases hc;done))
  | (unfold yE at hc;(repeat' split at hc)<;>(cases hc;done))
end
end
section
section
variable {C:bz} {nt:Fr} {g g':Gh} {st aX:St} {a:Act} {w w':World}
def Post (C:Ctx) (nt:Fr) (g0:Gh) (cM:St) (w0:World) (K:Exit→St→Prop):Exit→Act→World→Prop:=
 fun e a' w'=>∃ aX g',K e aX∧Rel C nt g' aX a' w'∧dF g0 cM w0 g' aX w'
theorem Nr {C:Ctx} {o:Oper} {fo:Operand} {cH:Array Operand} {ts:Array TypeId} (ho:o.op=.call {callee:=.value fo,args:=cH,argTypes:=ts}) {val:Operand→Value} {f:Nat} {first bt:Array Value}
  (hf:val fo=.func (.func (C.ez f)) first bt) (hc:yh C f) (w:World):(execOp val o).run C.P w=.ok (.enter (C.ez f) (first++cH.map val++bt)) w:=by
 obtain ⟨fn,h1,h2,h3⟩:=hc
 have h4:¬ fn.body=none:=fun h=>by simp [h] at h2
 have h5 : ¬ fn.name = "runtime.NumGoroutine" := fun h => by simp [h] at h3
 simp [execOp,ho,resolve,Deferred.ofValue,hf,invoke,callFunc,h1,h4,h5]
theorem yG {P:Program} {mr:List Nat} {name:String}:∀ {ts:List TypeId} {t i:Nat},za (yd P mr name ts) t=some i→∃ f,Vy P t name=some f∧Q0 mr f=some i
 | [],t,i,h=>by cases h
 | u::r,t,i,h=>by
  unfold yd at h
  split at h
  ·rename_i f hf
   split at h
   ·rename_i j hj
    simp only [za] at h
    split at h
    ·rename_i e
     cases h
     subst e
     exact ⟨f,hf,hj⟩
    ·exact yG h
   ·exact yG h
  ·exact yG h
theorem Ns {P:Program} {t:TypeId} {name:String} {f:FuncId} (h:Vy P t name=some f) (k:Nat) (v:Value) (w:World):(method (k+1) t v name).run P w=.ok (f,v) w:=by
 unfold Vy at h
 split at h
 ·rename_i i hi
  split at h
  ·rename_i m hm
   split at h
   ·rename_i f' fs hp hf hu
    cases h
    have Nt:(typeInfo t).run P w=.ok i w:=by simp [typeInfo,Sem.run_bind,hi]
    simp only [method,Sem.run_bind,Nt,Result.andThen_ok,hm,hp,follow,Sem.run_pure,hf,receiverAt,run_underlying hu,Place.get]
   ·cases h
  ·cases h
 ·cases h
theorem Nu {o:Oper} {fo:Operand} {cH:Array Operand} {ts:Array TypeId} (ho:o.op=.call {callee:=.value fo,args:=cH,argTypes:=ts}) {val:Operand→Value} {l:Nat}
  (hf:val fo=.func (.yield l) #[] #[]) {P:Program} (w:World):(execOp val o).run P w=(Instr.yield l (cH.map val)).run P w:=by
 simp [execOp,ho,resolve,Deferred.ofValue,hf,invoke]
open Classical in
theorem VK {F:Fence} {n:Nat} {P:Program} {c:Code} {Q:Exit→Act→World→Prop} {a:Act} {w:World} (J:Nat→Act→World→Prop) (m:Nat) (h0:J m a w)
  (round:∀ m a w,J m a w→c.wpIn F n P (Exit.then (fun a' w'=>∃ m',m' < m∧J m' a' w') Q) a w):(Code.loop c).wpIn F n P Q a w:=by
 have least:∀ (p:Nat→Prop) (m:Nat),p m→∃ k,p k∧∀ j,p j→k≤j:=by
  intro p m
  induction m using uF with
  | _ m ih=>
   intro hm
   by_cases h:∃ j,j < m∧p j
   ·obtain ⟨j,hj,hp⟩:=h;exact ih j hj hp
   ·exact ⟨m,hm,fun j hj=>Nat.le_of_not_lt fun hlt=>h ⟨j,hlt,hj⟩⟩
 let μ:Act→World→Nat:=fun a w=>if h:∃ k,J k a w∧∀ j,J j a w→k≤j then h.choose else 0
 have hμ:∀ a w m,J m a w→J (μ a w) a w∧μ a w≤m:=fun a w m hm=>by
  have h:=least (fun k=>J k a w) m hm
  show J (if h:∃ k,J k a w∧∀ j,J j a w→k≤j then h.choose else 0) a w∧(if h:∃ k,J k a w∧∀ j,J j a w→k≤j then h.choose else 0)≤m
  rw [dif_pos h]
  exact ⟨h.choose_spec.1,h.choose_spec.2 m hm⟩
 refine wpIn_loop (fun a w=>∃ m,J m a w) μ ⟨m,h0⟩ fun a w ⟨m,hm⟩ => ?_
 refine Code.wpIn_mono ?_ (round (μ a w) a w (hμ a w m hm).1)
 intro e a' w' q
 cases e with
 | normal=>
  obtain ⟨m',hlt,hJ⟩:=q
  exact ⟨⟨m',hJ⟩,Nat.lt_of_le_of_lt (hμ a' w' m' hJ).2 hlt⟩
 | _=>exact q
theorem VL {C:Ctx} {g:Gh} {h:Nat→Option aD} {N:Nat→Prop} {w:World} {o:Oper} {env:List (Nat×AV)} {val:Operand→Value} (hv:∀ x∈o.op.operands,RV C g h N w (zd env (C.bl x)) (val x))
  {f:aZ} {cH:Array Operand} {f':Nat} {first bt:List AV} (S:eJ C o.op f cH) (hf:zd env f=.func f' first bt) :
  ∃ vf vc:List Value,nG C g h N w (first++(cH.toList.map C.bl).map (zd env)++bt) (vf++(cH.toList.map val)++vc) ∧
   ∀ w,yh C f'→(execOp val o).run C.P w=.ok (.enter (C.ez f') (vf.toArray++cH.map val++vc.toArray)) w:=by
 cases S with
 | value fo ts ho hfo=>
  subst hfo
  have CW:=hv fo (by simp [ho,Op.operands,Call.operands])
  rw [hf] at CW
  generalize hval:val fo=v at CW
  cases CW with
  | func _ _ _ vf vc hlf hlc FJ eX=>
   refine ⟨vf,vc,⟨by simp [hlf,hlc],fun j x u hj hu => ?_⟩,fun w hc=>Nr ho hval hc w⟩
   rw [List.append_assoc,uG] at hj hu
   rw [hlf] at hj
   split at hj
   ·rename_i hlt;rw [if_pos hlt] at hu;exact FJ j x u hj hu
   ·rename_i hlt
    rw [if_neg hlt] at hu
    rw [uG] at hj hu
    simp only [List.length_map] at hj hu
    split at hj
    ·rename_i iw
     rw [if_pos iw] at hu
     simp only [uu,ud] at hj hu
     obtain ⟨o1,⟨y,hy,rfl⟩,rfl⟩:=hj
     obtain ⟨z,hz,rfl⟩:=hu
     rw [hy] at hz
     cases hz
     exact hv y (by simp only [ho,Op.operands,Call.operands];simp;exact .inr (by simpa using uc hy))
    ·rename_i iw
     rw [if_neg iw] at hu
     exact eX _ x u hj hu
 | inv r name ts ho hfo=>
  subst hfo
  simp only [zd] at hf
  split at hf
  ·rename_i t x e1
   split at hf
   ·rename_i i e2
    cases hf
    obtain ⟨fid,h1,h2⟩:=yG e2
    have BO:=hv (.tmp r) (by simp [ho,Op.operands,Call.operands])
    simp only [Ctx.bl,zd] at BO
    rw [e1] at BO
    generalize hval:val (.tmp r)=v at BO
    cases BO with
    | ap _ _ hr=>
     cases hr with
     | iface _ _ u hr=>
      refine ⟨[u],[],⟨by simp,fun j y z hj hz => ?_⟩,fun w hc => ?_⟩
      ·cases j with
       | zero=>simp at hj hz;subst hj hz;exact .ap _ _ hr
       | succ j=>
        simp only [List.append_nil,List.cons_append,List.nil_append,List.getElem?_cons_succ,uu,ud] at hj hz
        obtain ⟨o1,⟨y',hy,rfl⟩,rfl⟩:=hj
        obtain ⟨z',hz,rfl⟩:=hz
        rw [hy] at hz
        cases hz
        exact hv y' (by simp only [ho,Op.operands,Call.operands];simp;exact .inr (by simpa using uc hy))
      ·obtain ⟨fn,h3,h4,h5⟩:=hc
       have h6:¬ fn.body=none:=fun h=>by simp [h] at h4
       have h7 : ¬ fn.name = "runtime.NumGoroutine" := fun h => by simp [h] at h5
       have hfn:=kM h2
       have hm:=Ns h1 (C.P.types.size+99) u w
       have hd:C.P.types.size+Made.depth=C.P.types.size+99+1:=rfl
       have he:(cH.map val).extract 0 cH.size=cH.map val:=by
        apply uK
        simp only [Array.toList_extract,List.extract_eq_take_drop,List.drop_zero,uS,Array.toList_map]
        exact List.take_of_length_le (by simp)
       rw [hfn] at h3 ⊢
       have h0:(#[Value.iface t u]++cH.map val)[0]?=some (.iface t u):=by
        rw [Array.getElem?_append_left (by simp)];rfl
       simp [execOp,ho,resolve,hval,invoke,callMethod,he,callFunc]
       rw [h0]
       simp [Sem.run_bind,hd,hm,h3,h6,h7]
   ·cases hf
  ·cases hf
theorem Nv {C:Ctx} (R:Rel C nt g st a w) {o:Oper} {f:aZ} {cH:Array Operand} {f':Nat} {first bt:List AV} (S:eJ C o.op f cH) (hf:zd st.env f=.func f' first bt) :
 ∃ vf vc:List Value,nG C g (za st.heap) (· < st.next) w (first++(cH.toList.map C.bl).map (zd st.env)++bt) (vf++(cH.toList.map a.eval)++vc) ∧
  ∀ w,yh C f'→(execOp a.eval o).run C.P w=.ok (.enter (C.ez f') (vf.toArray++cH.map a.eval++vc.toArray)) w:=VL (fun x _=>Zq R x) S hf
theorem eJ.fR {C:Ctx} {o:Op} {f:aZ} {cH:Array Operand} (S:eJ C o f cH):∃ c,o=.call c:=by
 cases S with
 | value fo ts ho _=>exact ⟨_,ho⟩
 | inv r name ts ho _=>exact ⟨_,ho⟩
theorem eJ.eH {C:Ctx} {o:Op} {f:aZ} {cH:Array Operand} (S:eJ C o f cH) {env:List (Nat×AV)} {l id:Nat} (h:zd env f=.eH l id):∃ fo ts,o=.call {callee:=.value fo,args:=cH,argTypes:=ts}∧f=C.bl fo:=by
 cases S with
 | value fo ts ho hf=>exact ⟨fo,ts,ho,hf⟩
 | inv r name ts ho hf=>
  subst hf
  simp only [zd] at h
  split at h
  ·split at h<;>cases h
  ·cases h
theorem Nw {ops:Array Oper} {o:Oper} {it:aM} (hc:xv C nt.n ops o=some it) {K:St→Prop} (he:vL C it st K) (R:Rel C nt g st a w) (hI:C.inv g st w)
  {next:Act→World→Prop} {Q:Exit→Act→World→Prop}
  (hn:∀ aX g' a' w',K aX→Rel C nt g' aX a' w'→dF g st w g' aX w'→next a' w') :
  if Region.wanted o (yielded ops a.tmps) then o.wpIn (oZ C.ro) 0 C.P a w next Q else next (a.put o.dst undef) w:=by
 obtain ⟨hop,ff,nH,_⟩:=wR hc
 unfold vL at he
 split at he
 ·rename_i hg
  rw [J1 R hc hg]
  simp only [ul,if_false]
  obtain ⟨g',R',E'⟩:=KO (dst:=it.dst) R (fun d hd=>nH d (ff ▸ hd)) (zt (id:=st.next) R.heap RV.undef)
  rw [ff] at R' he E'
  exact hn _ _ _ _ he R' E'
 ·rename_i hg
  rw [J1 R hc hg]
  simp only [if_true]
  split at he
  ·rename_i f args gh
   rw [gh] at hop
   obtain ⟨cH,S,rfl⟩:=WH hop
   obtain ⟨cc,n9⟩:=S.fR
   split at he
   ·rename_i f' first bt tL
    obtain ⟨vf,vc,oa,oc⟩:=Nv R S tL
    obtain ⟨fS,mK⟩:=he
    have hrun:=oc w fS
    refine ⟨fun f _=>Qx _ f,?_⟩
    rw [Oper.semAt_eq _ _ _ (fun c hc=>by rw [n9] at hc;cases hc),hrun]
    simp only [Oper.uponIn]
    refine ⟨fun h=>(by rw [J0] at h;cases h),KN ?_⟩
    have mL:vf.toArray++cH.map a.eval++vc.toArray=(vf++cH.toList.map a.eval++vc).toArray:=by apply uK;simp
    rw [mL]
    refine (mK g w _ R.heap oa).mono ?_
    rintro e w' ⟨v,r,heap',next',g',rfl,hK,E,H,hv⟩
    have R1:Rel C nt g' {env:=st.env,heap:=heap',next:=next'} a w':=⟨R.env.mono E,H⟩
    have E2:bV g' (za heap') (· < next') w' g' (za heap') (· < next'+1) w':=by
     have:=bV.add g' (za heap') (· < next') w' next'
     rwa [jW] at this
    have H2:RH C g' (za heap') (· < next'+1) w':=by
     have:=H.add next'
     rwa [jW] at this
    have R2:Rel C nt g' {env:=st.env,heap:=heap',next:=next'+1} a w':=⟨R1.env.mono E2,H2⟩
    have R3:=R2.put it.dst (fun d hd=>nH d (ff ▸ hd)) (hv.mono E2)
    rw [ff] at R3 hK
    refine hn _ _ _ _ hK R3 ?_
    cases hd:o.dst<;>exact bV.trans E E2
   ·rename_i l id tL
    obtain ⟨fo,ts,ho,rfl⟩:=S.eH tL
    have hv:=Zq R fo
    rw [tL] at hv
    generalize hval:a.eval fo=v at hv
    obtain ⟨rfl,CX⟩:v=.func (.yield l) #[] #[]∧∀ R s pe,za st.heap id=some (.lp l R s pe)→g.ρ id=some l:=by cases hv with | eH _ _ _ hp=>exact ⟨rfl,hp⟩
    have oa:nG C g (za st.heap) (· < st.next) w ((cH.toList.map C.bl).map (zd st.env)) (cH.toList.map a.eval):=⟨by simp,fun j x u hj hu=>by
     simp only [uu,ud] at hj hu
     obtain ⟨o1,⟨y,hy,rfl⟩,rfl⟩:=hj
     obtain ⟨z,hz,rfl⟩:=hu
     rw [hy] at hz
     cases hz
     exact Zq R y⟩
    obtain ⟨fn,tmps,assign,body,hy,hR⟩:=C.CV l id _ _ _ _ he g w _ R.heap oa CX hI
    have mL:(cH.toList.map a.eval).toArray=cH.map a.eval:=by apply uK;simp
    rw [mL] at hy
    refine ⟨fun f _=>Qx _ f,?_⟩
    rw [Oper.semAt_eq _ _ _ (fun c hc=>by rw [ho] at hc;cases hc),Nu ho hval,hy]
    simp only [Oper.uponIn]
    refine ⟨fun h=>(by rw [J0] at h;cases h),Nq (hR.mono ?_)⟩
    rintro e w' ⟨v,r,heap',next',g',rfl,hK,E,H,hv⟩
    have R1:Rel C nt g' {env:=st.env,heap:=heap',next:=next'} a w':=⟨R.env.mono E,H⟩
    have E2:bV g' (za heap') (· < next') w' g' (za heap') (· < next'+1) w':=by
     have:=bV.add g' (za heap') (· < next') w' next'
     rwa [jW] at this
    have H2:RH C g' (za heap') (· < next'+1) w':=by
     have:=H.add next'
     rwa [jW] at this
    have R2:Rel C nt g' {env:=st.env,heap:=heap',next:=next'+1} a w':=⟨R1.env.mono E2,H2⟩
    have R3:=R2.put it.dst (fun d hd=>nH d (ff ▸ hd)) (hv.mono E2)
    rw [ff] at R3 hK
    refine hn _ _ _ _ hK R3 ?_
    cases hd:o.dst<;>exact bV.trans E E2
   ·exact he.elim
  ·rename_i sy
   split at he
   ·rename_i r aN iq
    obtain ⟨v,w',gR,nk⟩:=FG hop g (za st.heap) (· < st.next) w st.next (zd st.env) a.eval r aN R.heap (by omega) (fun x _=>Zq R x) iq
    obtain ⟨g',R',E'⟩:=KO (dst:=it.dst) R (fun d hd=>nH d (ff ▸ hd)) nk
    rw [ff] at R' he E'
    refine ⟨fun f _=>Qx _ f,?_⟩
    rw [Oper.semAt_eq _ _ _ (fun c hc=>by rw [hc] at hop;simp [yU] at hop)]
    rcases gR with gR | ⟨gR,rfl⟩
    ·rw [gR];exact hn _ _ _ _ he R' E'
    ·rw [gR];exact hn _ _ _ _ he R' E'
   ·exact he.elim
 ·exact he.elim
theorem Nx {ops:Array Oper} {K:Exit→St→Prop} {g0:Gh} {cM:St} {w0:World}:∀ (l:List Oper) (items:List aM),aI (xv C nt.n ops) l=some items →
  ∀ (st:St) (g:Gh) (a:Act) (w:World),AA C items (K .normal) st→Rel C nt g st a w→C.inv g0 cM w0→dF g0 cM w0 g st w→wpListIn (oZ C.ro) 0 C.P ops (Post C nt g0 cM w0 K) l a w:=by
 intro l
 induction l with
 | nil=>
  intro items hm st g a w he R hI E
  simp [aI] at hm
  subst hm
  exact ⟨st,g,he,R,E⟩
 | cons o l ih=>
  intro items hm st g a w he R hI E
  simp only [aI] at hm
  split at hm
  ·rename_i it hit
   split at hm
   ·rename_i its pG
    cases hm
    have:=Nw (Q:=Post C nt g0 cM w0 K) (next:=wpListIn (oZ C.ro) 0 C.P ops (Post C nt g0 cM w0 K) l) hit he R (hI.eN E) (fun aX g' a' w' hk R' E'=>ih its pG aX g' a' w' hk R' hI (E.trans E'))
    unfold wpListIn
    split
    ·rename_i hw;rw [if_pos hw] at this;exact this
    ·rename_i hw;rw [if_neg hw] at this;exact ⟨fun f _=>Qx _ f,this⟩
   ·cases hm
  ·cases hm
def cB (C:bz) (nt:Fr) (ac:cA) (K:Exit→St→Prop) (st:St):Prop:=
 ∀ code,comp C nt.n code=some ac.erase→∀ g a w,Rel C nt g st a w→C.inv g st w→code.wpIn (oZ C.ro) 0 C.P (Post C nt g st w K) a w
def qC (ks:List Nat) (env:List (Nat×AV)):List (Nat×AV):=env.filter fun p=>ks.contains p.1
def St.keep (st:St):Option (List Nat)→St
 | none=>st
 | some ks=>{st with env:=qC ks st.env}
theorem Q5 {ks:List Nat}:∀ {env:List (Nat×AV)} {t:Nat} {x:AV},za (qC ks env) t=some x→za env t=some x
 | [],t,x,h=>by simp [qC,za] at h
 | (k,v)::r,t,x,h=>by
  simp only [qC,uO] at h
  split at h
  ·simp only [za] at h ⊢
   split
   ·rename_i e;rw [if_pos e] at h;exact h
   ·rename_i e;rw [if_neg e] at h;exact Q5 (ks:=ks) h
  ·rename_i hk
   have h':=Q5 (ks:=ks) (env:=r) h
   simp only [za]
   split
   ·rename_i e
    subst e
    have hkn:ks.contains k=true:=by
     have:∀ {r:List (Nat×AV)},za (List.filter (fun p=>ks.contains p.1) r) k=some x→ks.contains k=true:=by
      intro r
      induction r with
      | nil=>intro h;simp [za] at h
      | cons p r ih=>
       intro h
       simp only [uO] at h
       split at h
       ·rename_i hp
        simp only [za] at h
        split at h
        ·rename_i e;rw [←e];exact hp
        ·exact ih h
       ·exact ih h
     exact this h
    exact absurd hkn hk
   ·exact h'
theorem Rel.keep {C:Ctx} (R:Rel C nt g st a w) (ks:Option (List Nat)):Rel C nt g (st.keep ks) a w:=by
 cases ks with
 | none=>exact R
 | some ks=>exact ⟨⟨R.env.size,R.env.defers,fun t x h=>R.env.slot t x (Q5 h)⟩,R.heap⟩
theorem Post.mono {C:Ctx} {g0:Gh} {cM:St} {w0:World} {K K':Exit→St→Prop} (h:∀ e st,K e st→K' e st):∀ e a w,Post C nt g0 cM w0 K e a w→Post C nt g0 cM w0 K' e a w:=
 fun e a w ⟨aX,g',hk,R,E⟩=>⟨aX,g',h e aX hk,R,E⟩
theorem qI {ac:cA} {K K':Exit→St→Prop} (h:∀ e st,K e st→K' e st) (hw:cB C nt ac K st):cB C nt ac K' st:=
 fun code hc g a w R hI=>Code.wpIn_mono (Post.mono h) (hw code hc g a w R hI)
theorem Zr {K:Exit→St→Prop} (h:K .normal st):cB C nt .skip K st:=by
 intro code hc g a w R hI
 simp only [cA.erase] at hc
 cases code
 case skip=>exact wpIn_skip ⟨st,g,h,R,dF.refl _ _ _⟩
 case label l=>exact wpIn_label ⟨st,g,h,R,dF.refl _ _ _⟩
 all_goals (simp only [comp] at hc;(repeat' split at hc)<;>cases hc)
theorem Ny {code:Code} {x y:cA} (hc:comp C nt.n code=some (.seq x y)):∃ p q,code=.seq p q∧comp C nt.n p=some x∧comp C nt.n q=some y:=by
 cases code<;>simp only [comp] at hc<;>(repeat' split at hc)<;>cases hc
 rename_i h1 h2
 exact ⟨_,_,rfl,h1,h2⟩
theorem Nz {code:Code} {c:aZ} {x y:cA} (hc:comp C nt.n code=some (.cond c x y)):∃ c' p q,code=.cond c' p q∧c=C.bl c'∧comp C nt.n p=some x∧comp C nt.n q=some y:=by
 cases code<;>simp only [comp] at hc<;>(repeat' split at hc)<;>cases hc
 rename_i h1 h2
 exact ⟨_,_,_,rfl,rfl,h1,h2⟩
theorem NA {code:Code} {id:Nat} {x:cA} (hc:comp C nt.n code=some (.block id x)):∃ p,code=.block id p∧comp C nt.n p=some x:=by
 cases code<;>simp only [comp] at hc<;>(repeat' split at hc)<;>cases hc
 rename_i h1
 exact ⟨_,rfl,h1⟩
theorem NB {code:Code} {x:cA} (hc:comp C nt.n code=some (.loop x)):∃ p,code=.loop p∧comp C nt.n p=some x:=by
 cases code<;>simp only [comp] at hc<;>(repeat' split at hc)<;>cases hc
 rename_i h1
 exact ⟨_,rfl,h1⟩
theorem NC {code:Code} {x:cA} (hc:comp C nt.n code=some (.scope x)):∃ p,code=.scope p∧comp C nt.n p=some x:=by
 cases code<;>simp only [comp] at hc<;>(repeat' split at hc)<;>cases hc
 rename_i h1
 exact ⟨_,rfl,h1⟩
theorem WI {code:Code} {d:Bool} {ord:List Nat} {items:List aM} (hc:comp C nt.n code=some (.region d ord items none)):∃ id ops,code=.region id ops d∧aI (xv C nt.n ops) ops.toList=some items ∧
  (d=true→C.P.follows .mixedOrders=true∧ord=(Region.before ops).toList∧vK ops ord=true):=by
 cases code
 case region id ops draw=>
  simp only [comp] at hc
  split at hc
  ·rename_i its pG
   cases draw with
   | true=>
    simp only [if_true] at hc
    split at hc
    ·rename_i bJ
     simp only [uj] at bJ
     simp only [Option.some.injEq,cA.region.injEq,and_true] at hc
     obtain ⟨rfl,rfl,rfl⟩:=hc
     exact ⟨id,ops,rfl,pG,fun _=>⟨bJ.1,rfl,bJ.2⟩⟩
    ·cases hc
   | false=>
    simp only [ul,if_false,Option.some.injEq,cA.region.injEq,and_true] at hc
    obtain ⟨rfl,rfl,rfl⟩:=hc
    exact ⟨id,ops,rfl,pG,fun h=>by cases h⟩
  ·cases hc
 all_goals (simp only [comp] at hc;(repeat' split at hc)<;>cases hc)
def vM (next:St→Prop) (K:Exit→St→Prop):Exit→St→Prop
 | .normal,st=>next st
 | e,st=>K e st
theorem qg {x y:cA} {K:Exit→St→Prop} (h:cB C nt x (vM (cB C nt y K) K) st):cB C nt (.seq x y) K st:=by
 intro code hc g a w R hI
 obtain ⟨p,q,rfl,h1,h2⟩:=Ny hc
 refine wpIn_seq (Code.wpIn_mono ?_ (h p h1 g a w R hI))
 rintro e a' w' ⟨aX,g',hk,R',E⟩
 cases e with
 | normal=>
  refine Code.wpIn_mono ?_ (hk q h2 g' a' w' R' (hI.eN E))
  rintro e a'' w'' ⟨CY,g'',hk',ND,E'⟩
  exact ⟨CY,g'',hk',ND,E.trans E'⟩
 | _=>exact ⟨aX,g',hk,R',E⟩
theorem xw {c:aZ} {x y:cA} {K:Exit→St→Prop} (b:Bool) (hb:zd st.env c=.ap (.bool b)) (ht:b=true→cB C nt x K st) (hf:b=false→cB C nt y K st) :
  cB C nt (.cond c x y) K st:=by
 intro code hc g a w R hI
 obtain ⟨c',p,q,rfl,rfl,h1,h2⟩:=Nz hc
 have hv:=Zq R c'
 rw [hb] at hv
 refine wpIn_cond_split (vl hv) (fun h=>ht h p h1 g a w R hI) (fun h=>hf h q h2 g a w R hI)
def xS (id:Nat) (K:Exit→St→Prop):Exit→St→Prop
 | .exit id',st=>if id'=id then K .normal st else K (.exit id') st
 | e,st=>K e st
theorem vn {id:Nat} {x:cA} {K:Exit→St→Prop} (h:cB C nt x (xS id K) st):cB C nt (.block id x) K st:=by
 intro code hc g a w R hI
 obtain ⟨p,rfl,h1⟩:=NA hc
 refine wpIn_block (Code.wpIn_mono ?_ (h p h1 g a w R hI))
 rintro e a' w' ⟨aX,g',hk,R',E⟩
 cases e with
 | exit id'=>
  simp only [Exit.inBlock,xS] at hk ⊢
  split
  ·rename_i e;rw [if_pos e] at hk;exact ⟨aX,g',hk,R',E⟩
  ·rename_i e;rw [if_neg e] at hk;exact ⟨aX,g',hk,R',E⟩
 | _=>exact ⟨aX,g',hk,R',E⟩
def Qy (K:Exit→St→Prop):Exit→St→Prop
 | .goto _,_=>False
 | e,st=>K e st
theorem KQ (hro:C.ro=none) {x:cA} {K:Exit→St→Prop} (h:cB C nt x (Qy K) st):cB C nt (.scope x) K st:=by
 intro code hc g a w R hI
 obtain ⟨p,rfl,h1⟩:=NC hc
 have h2:=h p h1 g a w R hI
 rw [hro] at h2 ⊢
 refine wpIn_wide.2 (wp_scope_straight (Code.wp_mono ?_ (wpIn_wide.1 h2)))
 rintro e a' w' ⟨aX,g',hk,R',E⟩
 cases e with
 | goto l=>exact hk.elim
 | _=>exact ⟨aX,g',hk,R',E⟩
theorem Q6 {id:Nat} {K:Exit→St→Prop} (h:K (.exit id) st):cB C nt (.exit id) K st:=by
 intro code hc g a w R hI
 simp only [cA.erase] at hc
 cases code<;>simp only [comp] at hc<;>(repeat' split at hc)<;>cases hc
 exact wpIn_exit ⟨st,g,h,R,dF.refl _ _ _⟩
theorem X2 {K:Exit→St→Prop} (h:K .ret st):cB C nt .ret K st:=by
 intro code hc g a w R hI
 simp only [cA.erase] at hc
 cases code<;>simp only [comp] at hc<;>(repeat' split at hc)<;>cases hc
 exact wpIn_ret ⟨st,g,h,R,dF.refl _ _ _⟩
theorem VM {ord:List Nat} {items:List aM} {ks:Option (List Nat)} {K:Exit→St→Prop} (h:AA C items (fun aX=>K .normal (aX.keep ks)) st):cB C nt (.region false ord items ks) K st:=by
 intro code hc g a w R hI
 obtain ⟨id,ops,rfl,hm,_⟩:=WI hc
 have:=Nx (C:=C) (nt:=nt) (ops:=ops) (K:=fun e aX=>K e (aX.keep ks)) (g0:=g) (cM:=st) (w0:=w) ops.toList items hm st g a w h R hI (dF.refl _ _ _)
 refine Code.wpIn_mono ?_ (wpIn_region_list this)
 rintro e a' w' ⟨aX,g',hk,R',E⟩
 exact ⟨aX.keep ks,g',hk,R'.keep ks,by cases ks<;>exact E⟩
def bO (st aX:St):Prop:=∀ (C:Ctx) (nt:Fr) (g:Gh) (a:Act) (w:World),Rel C nt g st a w →
 ∃ g',Rel C nt g' aX a w∧∀ g0 cM w0,cM.next≤aX.next→dF g0 cM w0 g st w→dF g0 cM w0 g' aX w
theorem bO.refl (st:St):bO st st:=fun _ _ g _ _ R=>⟨g,R,fun _ _ _ _ E=>E⟩
theorem bz.inv.cC {g1:Gh} {nR:St} (h:C.inv g st w) (hE:∀ g0 cM w0,cM.next≤nR.next→dF g0 cM w0 g st w→dF g0 cM w0 g1 nR w) (hn:st.next≤nR.next):C.inv g1 nR w:=by
 unfold bz.inv at *
 split
 ·trivial
 ·rename_i g0 cM w0 e
  rw [e] at h
  refine hE g0 cM w0 ?_ h
  rcases ur cM.next with h0 | h0
  ·omega
  ·have h1:cM.next - 1 < st.next:=bV.next h (cM.next - 1) (by show cM.next - 1 < cM.next;omega)
   omega
theorem yi {ac:cA} {K:Exit→St→Prop} {nR:St} (hw:bO st nR) (hn:st.next≤nR.next) (h:cB C nt ac K nR):cB C nt ac K st:=by
 intro code hc g a w R hI
 obtain ⟨g1,R1,hE⟩:=hw C nt g a w R
 have E1:=hE g st w hn (dF.refl _ _ _)
 refine Code.wpIn_mono ?_ (h code hc g1 a w R1 (hI.cC hE hn))
 rintro e a' w' ⟨aX,g',hk,R',E⟩
 exact ⟨aX,g',hk,R',E1.trans E⟩
theorem Q7 {ι:Type} {x:cA} {K:Exit→St→Prop} (S:ι→St) (μ:ι→Nat) (i0:ι) (hn:∀ i,(S i0).next≤(S i).next) (h0:bO st (S i0)) (hn0:st.next≤(S i0).next)
  (round:∀ i,cB C nt x (vM (fun aX=>∃ j,μ j < μ i∧bO aX (S j)) K) (S i)):cB C nt (.loop x) K st:=by
 refine yi h0 hn0 ?_
 intro code hc g a w R hI
 obtain ⟨p,rfl,h1⟩:=NB hc
 refine VK (fun n a' w'=>∃ i g',n=μ i∧Rel C nt g' (S i) a' w'∧dF g (S i0) w g' (S i) w') (μ i0) ⟨i0,g,rfl,R,dF.refl _ _ _⟩ ?_
 rintro n a1 w1 ⟨i,g1,rfl,R1,E1⟩
 refine Code.wpIn_mono ?_ (round i p h1 g1 a1 w1 R1 (hI.eN E1))
 rintro e a' w' ⟨aX,g',hk,R',E'⟩
 cases e with
 | normal=>
  obtain ⟨j,hlt,AB⟩:=hk
  obtain ⟨g2,R2,CZ⟩:=AB C nt g' a' w' R'
  exact ⟨μ j,hlt,j,g2,rfl,R2,CZ g (S i0) w (hn j) (E1.trans E')⟩
 | _=>exact ⟨aX,g',hk,R',E1.trans E'⟩
end
end
section
section
variable {C:Ctx} {nt:Fr} {g g':Gh} {h h':Nat→Option aD} {N N':Nat→Prop} {st aX:St} {a:Act} {w w':World}
theorem YV (R:RH C g h N w) (Z':Nat→Nat) (hZ:∀ b,g.Z b≤Z' b) (hO:∀ i b sz af,g.ρ i=some b→h i=some (.af sz af)→af.length*sz≤Z' b) (hM:∀ i b es,g.ρ i=some b→h i=some (.map es)→0 < Z' b) :
  ∀ (d:Nat) (x:AV) (v:Value) (y:IV),zC h d x=some y→RV C g h N w x v→RI Z' w y v:=by
 have up:∀ {y:IV} {v:Value},RI g.Z w y v→RI Z' w y v:=fun hr=>hr.mono hZ (iF.refl _ _)
 intro d
 induction d with
 | zero=>intro x v y hx;simp [zC] at hx
 | succ d ih=>
  intro x v y hx hv
  cases hv with
  | ap z _ hr=>simp [zC] at hx;subst hx;exact up hr
  | nil=>simp [zC] at hx;subst hx;exact .nil
  | cr a cap=>simp [zC] at hx;subst hx;exact yf
  | aS i af _ hr _ _=>simp [zC] at hx;subst hx;exact up hr
  | agg cs vs hl h1 hr=>
   simp only [zC,ud] at hx
   obtain ⟨out,hout,rfl⟩:=hx
   obtain ⟨h2,h3⟩:=qi hout
   refine .agg out vs (by rw [h2];exact hl) h1 fun i c u hc hu => ?_
   have hlt:i < cs.length:=by rw [←h2];exact (ua.1 hc).1
   obtain ⟨c',h4,h5⟩:=h3 i cs[i] (by simp)
   rw [hc] at h4
   cases h4
   exact ih _ _ _ h5 (hr i cs[i] u (by simp) hu)
  | tuple cs vs hl hr=>
   simp only [zC,ud] at hx
   obtain ⟨out,hout,rfl⟩:=hx
   obtain ⟨h2,h3⟩:=qi hout
   refine .tuple out vs (by rw [h2];exact hl) fun i c u hc hu => ?_
   have hlt:i < cs.length:=by rw [←h2];exact (ua.1 hc).1
   obtain ⟨c',h4,h5⟩:=h3 i cs[i] (by simp)
   rw [hc] at h4
   cases h4
   exact ih _ _ _ h5 (hr i cs[i] u (by simp) hu)
  | Zaj i off len _ hni hone hp=>
   simp only [zC] at hx
   split at hx
   ·rename_i sz af cN
    split at hx
    ·rename_i hle
     rw [ud] at hx
     obtain ⟨out,hout,rfl⟩:=hx
     obtain ⟨h2,h3⟩:=qi hout
     have lM:((af.drop off).take len).length=len:=by simp;omega
     have iT:out.length=len:=by rw [h2,lM]
     obtain ⟨_,h5⟩:=hp sz af cN
     rcases h5 with ⟨hn,hr,hval⟩ | ⟨b,cap,c,e,hb,hval,fL,hw,hcap⟩
     ·subst hr
      have:len=0:=by simp at hle;omega
      have ho:out=[]:=List.eq_nil_of_length_eq_zero (by omega)
      subst ho
      rw [hval]
      exact .nil
     ·obtain ⟨hz,c',e',ic,hlen,hcells⟩:=R.obj i b _ hb cN
      have key:∀ (i':Nat) (row:List IV) (j:Nat) (x:IV),out[i']?=some row→row[j]?=some x→∃ u,c'[(off+i')*sz+j]?=some u∧u.oneCell'=true∧RI Z' w x u∧i' < len∧row.length=sz∧j < sz:=fun i' row j x hi hj=>by
       have hi':i' < len:=by rw [←iT];exact (ua.1 hi).1
       have gG:((af.drop off).take len)[i']?=some (af[off+i']'(by omega)):=by
        rw [uA hi',uL];simp
       obtain ⟨row',ct,cz⟩:=h3 i' _ gG
       rw [hi] at ct
       cases ct
       obtain ⟨rf,n6⟩:=qi cz
       have hj':j < (af[off+i']'(by omega)).length:=by rw [←rf];exact (ua.1 hj).1
       obtain ⟨x',hx1,hx2⟩:=n6 j ((af[off+i']'(by omega))[j]) (ui hj')
       rw [hj] at hx1
       cases hx1
       have hrow:af[off+i']?=some (af[off+i']'(by omega)):=by simp
       obtain ⟨cv,h6,h7,h8⟩:=hcells (off+i') _ j _ hrow (ui hj')
       have hsz:=hlen (off+i') _ hrow
       exact ⟨cv,h6,h7,ih _ _ _ hx2 h8,hi',by rw [rf];exact hsz,by rw [←hsz];exact hj'⟩
      have pH:∀ (i':Nat) (row:List IV),out[i']?=some row→row.length=sz:=fun i' row hi=>by
       have hi':i' < len:=by rw [←iT];exact (ua.1 hi).1
       have gG:((af.drop off).take len)[i']?=some (af[off+i']'(by omega)):=by
        rw [uA hi',uL];simp
       obtain ⟨row',ct,cz⟩:=h3 i' _ gG
       rw [hi] at ct
       cases ct
       rw [(qi cz).1]
       exact hlen (off+i') _ (by simp)
      rw [hval,←iT]
      refine .slice out b (off*sz) cap sz (fun i' j=>c'.getD ((off+i')*sz+j) undef) (by omega) pH (fun i' row j x hi hj => ?_) (fun i' row j x hi hj => ?_) (fun i' row j x hi hj => ?_)
      ·obtain ⟨u,h6,h7,h8,h9,h10,h11⟩:=key i' row j x hi hj
       have nE:=hO i b sz af hb cN
       have:(off+i'+1)*sz≤af.length*sz:=Nat.mul_le_mul_right _ (by omega)
       simp only [uV] at this
       omega
      ·obtain ⟨u,h6,h7,h8,h9,h10,h11⟩:=key i' row j x hi hj
       have hu:c'.getD ((off+i')*sz+j) undef=u:=by
        have hlt:(off+i')*sz+j < c'.size:=(ub.1 h6).1
        simp [hlt] at h6 ⊢
        exact h6
       rw [hu,qF ic]
       refine ⟨?_,h7⟩
       rw [←h6]
       congr 1
       rw [uV]
      ·obtain ⟨u,h6,h7,h8,h9,h10,h11⟩:=key i' row j x hi hj
       have hu:c'.getD ((off+i')*sz+j) undef=u:=by
        have hlt:(off+i')*sz+j < c'.size:=(ub.1 h6).1
        simp [hlt] at h6 ⊢
        exact h6
       rw [hu]
       exact h8
    ·cases hx
   ·cases hx
  | map i _ hni hone hp=>
   simp only [zC] at hx
   split at hx
   ·rename_i es cN
    rw [ud] at hx
    obtain ⟨out,hout,rfl⟩:=hx
    obtain ⟨h2,h3⟩:=qi hout
    obtain ⟨b,hb,hval⟩:=hp es cN
    obtain ⟨hz,cF,clock,hw,hl,hr⟩:=R.obj i b _ hb cN
    have key:∀ (j:Nat) (k x:IV),out[j]?=some (k,x)→∃ e,cF[j]?=some e∧IV.key k=some e.key∧RI Z' w x e.val:=fun j k x hj=>by
     have hlt:j < es.length:=by rw [←h2];exact (ua.1 hj).1
     obtain ⟨y,h4,h5⟩:=h3 j es[j] (ui hlt)
     rw [hj] at h4
     cases h4
     rw [ud] at h5
     obtain ⟨z,h6,h7⟩:=h5
     cases h7
     obtain ⟨e,e1,e2,e3⟩:=hr j es[j].1 es[j].2 (by rw [ui hlt])
     exact ⟨e,e1,e2,ih _ _ _ h6 e3⟩
    rw [hval]
    have iq:∀ (j:Nat) (e:MapEntry),cF[j]?=some e→(cF[j]?).getD {key:=undef,val:=undef,born:=0}=e:=fun j e h=>by rw [h];rfl
    refine .eI out b cF clock (fun j=>(cF[j]?).getD {key:=undef,val:=undef,born:=0}) (hM i b es hb cN) hw (by rw [hl,h2]) (fun j k x hj => ?_) (fun j k x hj => ?_)
    ·obtain ⟨e,e1,e2,e3⟩:=key j k x hj
     rw [iq j e e1]
     exact ⟨e1,e2⟩
    ·obtain ⟨e,e1,e2,e3⟩:=key j k x hj
     rw [iq j e e1]
     exact e3
   ·cases hx
  | _=>simp [zC] at hx
theorem FK:∀ (d:Nat) (x:AV) (v:Value) (y:IV),xb d x=true→zC h d x=some y→RV C g h N w x v→RI g.Z w y v:=by
 intro d
 induction d with
 | zero=>intro x v y _ hx;simp [zC] at hx
 | succ d ih=>
  intro x v y hm hx hv
  cases hv with
  | ap z _ hr=>simp [zC] at hx;subst hx;exact hr
  | nil=>simp [zC] at hx;subst hx;exact .nil
  | cr a cap=>simp [zC] at hx;subst hx;exact yf
  | aS i af _ hr _ _=>simp [zC] at hx;subst hx;exact hr
  | agg cs vs hl h1 hr=>
   simp only [zC,ud] at hx
   simp only [xb] at hm
   obtain ⟨out,hout,rfl⟩:=hx
   obtain ⟨h2,h3⟩:=qi hout
   refine .agg out vs (by rw [h2];exact hl) h1 fun i c u hc hu => ?_
   have hlt:i < cs.length:=by rw [←h2];exact (ua.1 hc).1
   obtain ⟨c',h4,h5⟩:=h3 i cs[i] (by simp)
   rw [hc] at h4
   cases h4
   exact ih _ _ _ (ue.1 hm _ (uq hlt)) h5 (hr i cs[i] u (by simp) hu)
  | tuple cs vs hl hr=>
   simp only [zC,ud] at hx
   simp only [xb] at hm
   obtain ⟨out,hout,rfl⟩:=hx
   obtain ⟨h2,h3⟩:=qi hout
   refine .tuple out vs (by rw [h2];exact hl) fun i c u hc hu => ?_
   have hlt:i < cs.length:=by rw [←h2];exact (ua.1 hc).1
   obtain ⟨c',h4,h5⟩:=h3 i cs[i] (by simp)
   rw [hc] at h4
   cases h4
   exact ih _ _ _ (ue.1 hm _ (uq hlt)) h5 (hr i cs[i] u (by simp) hu)
  | Zaj i off len _ hni hone hp=>simp [xb] at hm
  | map=>simp [xb] at hm
  | _=>simp [zC] at hx
theorem wc (R:RH C g h N w) {Z':Nat→Nat} (hB:Below w.heap.size w w') (hZ:∀ b,b < w.heap.size→Z' b=g.Z b):bV g h N w ⟨g.ρ,Z'⟩ h N w' where
 os:=hB.os
 tape:=hB.tape
 output:=hB.output
 size:=hB.size
 old:=fun b hb _=>⟨hB.block b hb,hZ b hb⟩
 own:=fun b hb=>.inl hb
 bW:=fun b=>by
  rcases uv b w.heap.size with hb | hb
  ·show g.Z b≤Z' b;rw [hZ b hb];exact uk _
  ·rcases ur (g.Z b) with h0 | h0
   ·omega
   ·have:=R.dX b h0;omega
 cell:=iF.heap fun b hz=>hB.block b (R.dX b hz)
 shape:=fun b c e hb=>⟨c,(hB.block b (qb hb)).trans hb,rfl⟩
 next:=fun _ h=>h
 eu:=fun i b hb _ _ _ _=>.inl hb
 cI:=fun i hb _ _ _ _=>.inl hb
 af:=fun i _ sz af h=>⟨af,h,rfl⟩
 cR:=fun i _ sz len h=>⟨len,h,uk _⟩
 maps:=fun i _ es h=>⟨es,h⟩
 fJ:=fun i _ ll RR s pe h=>⟨s,pe,h⟩
theorem Zs (R:RH C g h N w) {Z':Nat→Nat} (hB:Below w.heap.size w w') (hZ:∀ b,b < w.heap.size→Z' b=g.Z b) (hlt:∀ b,0 < Z' b→b < w'.heap.size):RH C ⟨g.ρ,Z'⟩ h N w' where
 inj:=R.inj
 lt:=fun i b hb=>⟨ug (R.lt i b hb).1 hB.size,(R.lt i b hb).2⟩
 key:=R.key
 obj:=fun i b o hb ho=>(R.obj i b o hb ho).keep (wc R hB hZ) (hB.block b (R.lt i b hb).1) (hZ b (R.lt i b hb).1)
 cQ:=R.cQ
 dX:=hlt
 fix:=R.fix.eN (wc R hB hZ)
def xL:IV→Bool
 | .slice _ | .iface _ _ | .cP | .eI _=>false
 | .agg cs | .tuple cs=>cs.all fun c=>match c with | .bool _ | .int _ _ | .str _=>true | _=>false
 | _=>true
theorem FL {Z Z':Nat→Nat} {x:IV} {v:Value} (hf:xL x=true) (hr:RI Z w x v):RI Z' w' x v:=by
 have one:∀ {c:IV} {u:Value},(match c with | .bool _ | .int _ _ | .str _=>true | _=>false)=true→RI Z w c u→RI Z' w' c u:=fun {c u} hc hr=>by
  cases hr<;>first | exact .bool _ | exact .int _ _ | exact .str _ | (simp at hc)
 cases hr with
 | bool b=>exact .bool b
 | int k n=>exact .int k n
 | str s=>exact .str s
 | nil=>simp [xL] at hf
 | empty=>simp [xL] at hf
 | slice=>simp [xL] at hf
 | iface=>simp [xL] at hf
 | cP=>simp [xL] at hf
 | eI=>simp [xL] at hf
 | agg cs vs hl h1 hr=>exact .agg cs vs hl h1 fun i c u hc hu=>one (ue.1 hf c (uc hc)) (hr i c u hc hu)
 | tuple cs vs hl hr=>exact .tuple cs vs hl fun i c u hc hu=>one (ue.1 hf c (uc hc)) (hr i c u hc hu)
theorem bH.pure {f:Nat} {args:List AV} {heap:List (Nat×aD)} {next d:Nat} {K:AV→List (Nat×aD)→Nat→Prop} {dx:List IV} {r:IV} (hp:aJ C f dx r)
  (hm:(args.all (xb d))=true) (hx:aI (zC (za heap) d) args=some dx) (hK:K (.ap r) heap next):bH C f args heap next K:=by
 refine ⟨hp.1,fun g w vs R hv => ?_⟩
 obtain ⟨h1,h2⟩:=qi hx
 refine (hp.2 g.Z w vs R.dX ⟨R.fix.1,R.fix.2.1⟩ ⟨by rw [h1];exact hv.1,fun j c u hc hu => ?_⟩).mono ?_
 ·have hlt:j < args.length:=by rw [←h1];exact (ua.1 hc).1
  obtain ⟨c',h3,h4⟩:=h2 j args[j] (by simp)
  rw [hc] at h3
  cases h3
  exact FK d _ _ _ (ue.1 hm _ (uq hlt)) h4 (hv.2 j args[j] u (by simp) hu)
 ·rintro e w' ⟨v,Z',rfl,hr,hZ,hlt,hB⟩
  exact ⟨v,.ap r,heap,next,⟨g.ρ,Z'⟩,rfl,hK,wc R hB hZ,Zs R hB hZ hlt,.ap _ _ hr⟩
theorem bH.oe {f:Nat} {args:List AV} {heap:List (Nat×aD)} {next d:Nat} {K:AV→List (Nat×aD)→Nat→Prop} {dx:List IV} {r:IV} (hp:aJ C f dx r)
  (hx:aI (zC (za heap) d) args=some dx) (hf:xL r=true) (hK:K (.ap r) heap next):bH C f args heap next K:=by
 refine ⟨hp.1,fun g w vs R hv => ?_⟩
 obtain ⟨h1,h2⟩:=qi hx
 let Z1:Nat→Nat:=fun b=>match w.heap[b]? with
  | some (.cells c _ _)=>max (g.Z b) c.size
  | some (.map _ _)=>max (g.Z b) 1
  | _=>g.Z b
 have iz:∀ b,g.Z b≤Z1 b:=fun b=>by
  show g.Z b≤(match w.heap[b]? with | some (.cells c _ _)=>max (g.Z b) c.size | some (.map _ _)=>max (g.Z b) 1 | _=>g.Z b)
  split
  ·exact uy _ _
  ·exact uy _ _
  ·exact uk _
 have sA:∀ b,0 < Z1 b→b < w.heap.size:=fun b hb=>by
  rcases uv b w.heap.size with h | h
  ·exact h
  ·have hn:w.heap[b]?=none:=um h
   have:Z1 b=g.Z b:=by show (match w.heap[b]? with | some (.cells c _ _)=>max (g.Z b) c.size | some (.map _ _)=>max (g.Z b) 1 | _=>g.Z b)=g.Z b;rw [hn]
   exact R.dX b (by omega)
 have hO:∀ i b sz af,g.ρ i=some b→za heap i=some (.af sz af)→af.length*sz≤Z1 b:=fun i b sz af hb ho=>by
  obtain ⟨hz,c,e,hc,hlen,hcells⟩:=R.obj i b _ hb ho
  have hZ:Z1 b=max (g.Z b) c.size:=by show (match w.heap[b]? with | some (.cells c _ _)=>max (g.Z b) c.size | some (.map _ _)=>max (g.Z b) 1 | _=>g.Z b)=_;rw [hc]
  rw [hZ]
  refine uT ?_ (ux _ _)
  rcases ur (af.length*sz) with h0 | h0
  ·omega
  ·have hs:0 < sz:=ut fun e=>by subst e;simp at h0
   have hr:0 < af.length:=ut fun e=>by rw [e] at h0;simp at h0
   have hrow:af[af.length - 1]?=some (af[af.length - 1]'(by omega)):=by simp
   have hl:=hlen _ _ hrow
   obtain ⟨cv,h3,_⟩:=hcells (af.length - 1) _ (sz - 1) ((af[af.length - 1]'(by omega))[sz - 1]'(by omega)) hrow (by simp)
   have hlt:=(ub.1 h3).1
   have:(af.length - 1)*sz+sz=af.length*sz:=by
    rw [←uU];congr 1;omega
   omega
 have hM:∀ i b es,g.ρ i=some b→za heap i=some (.map es)→0 < Z1 b:=fun i b es hb ho=>by
  obtain ⟨hz,cF,clock,hw,_⟩:=R.obj i b _ hb ho
  have hZ:Z1 b=max (g.Z b) 1:=by show (match w.heap[b]? with | some (.cells c _ _)=>max (g.Z b) c.size | some (.map _ _)=>max (g.Z b) 1 | _=>g.Z b)=_;rw [hw]
  rw [hZ]
  exact ug uP (ux _ _)
 refine (hp.2 Z1 w vs sA ⟨R.fix.1,R.fix.2.1⟩ ⟨by rw [h1];exact hv.1,fun j c u hc hu => ?_⟩).mono ?_
 ·have hlt:j < args.length:=by rw [←h1];exact (ua.1 hc).1
  obtain ⟨c',h3,h4⟩:=h2 j args[j] (by simp)
  rw [hc] at h3
  cases h3
  exact YV R Z1 iz hO hM d _ _ _ h4 (hv.2 j args[j] u (by simp) hu)
 ·rintro e w' ⟨v,Z',rfl,hr,hZ,hlt,hB⟩
  refine ⟨v,.ap r,heap,next,g,rfl,hK,wc (Z':=g.Z) R hB (fun _ _=>rfl),Zs (Z':=g.Z) R hB (fun _ _=>rfl) (fun b hb=>ug (R.dX b hb) hB.size),.ap _ _ (FL hf hr)⟩
theorem bH.mono {f:Nat} {args:List AV} {heap:List (Nat×aD)} {next:Nat} {K K':AV→List (Nat×aD)→Nat→Prop} (hk:∀ r h n,K r h n→K' r h n) (hc:bH C f args heap next K):bH C f args heap next K':=
 ⟨hc.1,fun g w vs R hv=>(hc.2 g w vs R hv).mono fun e w' ⟨v,r,heap',next',g',h1,h2,h3⟩=>⟨v,r,heap',next',g',h1,hk _ _ _ h2,h3⟩⟩
end
end
section
def jn:Nat→List AV→List (Nat×AV)
 | _,[]=>[]
 | i,x::xs=>(i,x)::jn (i+1) xs
def wI (st:St):dy→Option AV
 | .tmp t=>za st.env t
 | .cell t ag n=>match ai (.load ag n (.t t)) (zd st.env) (za st.heap) 0 with
  | some (r,_)=>some r
  | none=>none
def ja (rs:List dy) (st:St):Option AV:=match rs with
 | [r]=>wI st r
 | rs=>match aI (wI st) rs with
  | some xs=>some (.tuple xs)
  | none=>none
section
variable {C:Ctx} {nt:Fr} {g g':Gh} {h h':Nat→Option aD} {N N':Nat→Prop} {st aX:St} {a:Act} {w w':World}
theorem VN:∀ (args:List AV) (i t:Nat) (x:AV),za (jn i args) t=some x→i≤t∧args[t - i]?=some x
 | [],i,t,x,h=>by simp [jn,za] at h
 | y::ys,i,t,x,h=>by
  simp only [jn,za] at h
  split at h
  ·rename_i e;subst e;cases h;simp
  ·obtain ⟨h1,h2⟩:=VN ys (i+1) t x h
   refine ⟨by omega,?_⟩
   rw [show t - i=(t - (i+1))+1 by omega]
   simpa using h2
theorem NE (R:Rel C nt g st a w) {rv:ResultVar} {ar:dy} (hc:yg C rv=some ar) {x:AV} (hx:wI st ar=some x) :
  ∃ v,((match rv with | .tmp t=>pure (a.tmps.getD t undef) | .cell ad t=>do loadVar t (←asAddr (a.tmps.getD ad undef)):Sem Value)).run C.P w=.ok v w∧RV C g (za st.heap) (· < st.next) w x v:=by
 cases rv with
 | tmp t=>
  simp only [yg,Option.some.injEq] at hc
  subst hc
  exact ⟨_,rfl,R.env.slot t x hx⟩
 | cell ad t=>
  simp only [yg] at hc
  split at hc
  ·rename_i ag n h1 h2
   cases hc
   simp only [wI] at hx
   split at hx
   ·rename_i r aN he
    cases hx
    have hv:RV C g (za st.heap) (· < st.next) w (zd st.env (.t ad)) (a.tmps.getD ad undef):=Zq R (.tmp ad)
    obtain ⟨v,h3,_,h4⟩:=Kz h1 h2 R.heap hv he
    refine ⟨v,?_,h4⟩
    have AD:∃ p,a.tmps.getD ad undef=.pointer (some p):=by
     generalize a.tmps.getD ad undef=q at h3
     cases q with
     | pointer p=>
      cases p with
      | none=>simp [Instr.loadAt,Instr.sureAddr] at h3
      | some p=>exact ⟨p,rfl⟩
     | _=>simp [Instr.loadAt,Instr.sureAddr] at h3
    obtain ⟨p,hp⟩:=AD
    rw [hp] at h3
    show ((do loadVar t (←asAddr (a.tmps.getD ad undef)):Sem Value)).run C.P w=.ok v w
    rw [hp]
    simpa [Instr.loadAt,Instr.sureAddr,asAddr] using h3
   ·cases hx
  ·cases hc
theorem NF (R:Rel C nt g st a w) {fn:Func} {rs:List dy} (hc:aI (yg C) fn.results.toList=some rs) {x:AV} (hx:ja rs st=some x) :
  ∃ v,(results fn a.tmps).run C.P w=.ok v w∧RV C g (za st.heap) (· < st.next) w x v:=by
 obtain ⟨hl,hg⟩:=qi hc
 have many:∀ (l:List ResultVar) (rs:List dy) (xs:List AV),aI (yg C) l=some rs→aI (wI st) rs=some xs →
   ∃ vs:List Value,(l.mapM (fun rv=>(match rv with | .tmp t=>pure (a.tmps.getD t undef) | .cell ad t=>do loadVar t (←asAddr (a.tmps.getD ad undef)):Sem Value))).run C.P w=.ok vs w∧vs.length=xs.length ∧
    ∀ (j:Nat) (y:AV) (u:Value),xs[j]?=some y→vs[j]?=some u→RV C g (za st.heap) (· < st.next) w y u:=by
  intro l
  induction l with
  | nil=>
   intro rs xs h1 h2
   simp [aI] at h1;subst h1
   simp [aI] at h2;subst h2
   exact ⟨[],by simp,rfl,fun j y u hj=>by simp at hj⟩
  | cons rv l ih=>
   intro rs xs h1 h2
   simp only [aI] at h1
   split at h1
   ·rename_i ar har
    split at h1
    ·rename_i rs' nF
     cases h1
     simp only [aI] at h2
     split at h2
     ·rename_i y hy
      split at h2
      ·rename_i ys hys
       cases h2
       obtain ⟨v,h3,h4⟩:=NE R har hy
       obtain ⟨vs,h5,h6,h7⟩:=ih rs' ys nF hys
       refine ⟨v::vs,?_,by simp [h6],fun j y' u hj hu => ?_⟩
       ·simp only [List.mapM_cons,Sem.run_bind,h3,Result.andThen_ok,h5,Sem.run_pure]
       ·cases j with
        | zero=>simp at hj hu;subst hj;subst hu;exact h4
        | succ j=>exact h7 j y' u (by simpa using hj) (by simpa using hu)
      ·cases h2
     ·cases h2
    ·cases h1
   ·cases h1
 have hrun:∀ vs:List Value,(fn.results.toList.mapM (fun rv=>(match rv with | .tmp t=>pure (a.tmps.getD t undef) | .cell ad t=>do loadVar t (←asAddr (a.tmps.getD ad undef)):Sem Value))).run C.P w=.ok vs w →
   (results fn a.tmps).run C.P w=.ok (if h:vs.toArray.size=1 then vs.toArray[0] else .tuple vs.toArray) w:=fun vs hvs=>by
  have key:∀ (F:ResultVar→Sem Value),(∀ rv,F rv=(match rv with | .tmp t=>pure (a.tmps.getD t undef) | .cell ad t=>do loadVar t (←asAddr (a.tmps.getD ad undef)):Sem Value))→(fn.results.toList.mapM F).run C.P w=.ok vs w:=fun F hF=>by
   rw [funext hF];exact hvs
  unfold results
  rw [Array.mapM_eq_mapM_toList]
  simp only [Sem.run_bind,Sem.run_map]
  rw [key _ (fun rv=>by cases rv<;>rfl)]
  rfl
 unfold ja at hx
 split at hx
 ·rename_i ar
  have h1:aI (wI st) [ar]=some [x]:=by simp [aI,hx]
  obtain ⟨vs,h2,h3,h4⟩:=many fn.results.toList [ar] [x] hc h1
  obtain ⟨v,rfl⟩:=uD.1 h3
  exact ⟨v,by rw [hrun _ h2];rfl,h4 0 x v rfl rfl⟩
 ·rename_i hne
  split at hx
  ·rename_i xs hxs
   cases hx
   obtain ⟨vs,h2,h3,h4⟩:=many fn.results.toList rs xs hc hxs
   have hxl:=(qi hxs).1
   have hn1:¬ vs.toArray.size=1:=by
    intro eX
    have:rs.length=1:=by rw [←hxl,←h3];simpa using eX
    obtain ⟨ar,rfl⟩:=uD.1 this
    exact hne ar rfl
   exact ⟨.tuple vs.toArray,by rw [hrun _ h2,dif_neg hn1],.tuple xs vs h3.symm h4⟩
  ·cases hx
theorem Zt {f : Nat} {F : dw} (hF : qn C f = some F.erase) : ∃ fn code, C.P.funcs[C.ez f]? = some fn ∧ fn.body = some code ∧ (fn.name == "runtime.NumGoroutine") = false ∧ fn.ntmps = F.nt ∧
  comp C F.nt code=some F.body.erase∧aI (yg C) fn.results.toList=some F.results:=by
 unfold qn at hF
 split at hF
 ·rename_i fn hfn
  split at hF
  ·rename_i code lO
   split at hF
   ·rename_i ac rs hac rY
    split at hF
    ·cases hF
    ·rename_i hname
     simp only [Option.some.injEq,dw.erase,dw.mk.injEq] at hF
     obtain ⟨h1,h2,h3⟩:=hF
     subst h2
     subst h3
     exact ⟨fn,code,hfn,lO,by simpa using hname,h1,by rw [←h1];exact hac,rY⟩
   ·cases hF
  ·cases hF
 ·cases hF
def C1 (F:dw) (K:AV→List (Nat×aD)→Nat→Prop):Exit→St→Prop:=fun e st=>(e=.ret∨e=.normal)∧∃ r,ja F.results st=some r∧K r st.heap st.next
structure iA (Ds:List Nat) (w w2:World):Prop where
 os:w2.os=w.os
 tape:w2.tape=w.tape
 output:w2.output=w.output
 size:w2.heap.size=w.heap.size
 keep:∀ b,b ∉ Ds→w2.heap[b]?=w.heap[b]?
 done:∀ D,D∈Ds→∃ x,w2.heap[D]?=some (.deferred x)
 was:∀ D,D∈Ds→∃ x,w.heap[D]?=some (.deferred x)
theorem iA.block {Ds:List Nat} {w w2:World} (S:iA Ds w w2) {b:Nat} {o:Obj} (h:w.heap[b]?=some o) (ho:∀ x,o≠.deferred x):w2.heap[b]?=some o:=by
 by_cases hb:b∈Ds
 ·obtain ⟨x,hx⟩:=S.was b hb
  rw [h] at hx;cases hx;exact absurd rfl (ho x)
 ·rw [S.keep b hb];exact h
theorem iA.cell {Ds:List Nat} {w w2:World} (S:iA Ds w w2) (p:Addr):w2.cell? p=w.cell? p:=by
 by_cases hb:p.block∈Ds
 ·obtain ⟨x,hx⟩:=S.was _ hb
  obtain ⟨y,hy⟩:=S.done _ hb
  simp only [World.cell?,hx,hy]
 ·simp only [World.cell?,S.keep _ hb]
theorem iA.C2 {Ds:List Nat} {w w2:World} (S:iA Ds w w2) (Z:Nat→Nat):iF Z w w2:=⟨fun b o _=>S.cell _,fun b cF clock _ hb=>(S.block hb (by simp)).trans hb.symm⟩
theorem RV.shut {Ds:List Nat} {w w2:World} (S:iA Ds w w2) {x:AV} {v:Value} (hv:RV C g h N w x v):RV C g h N w2 x v:=by
 induction hv with
 | top v=>exact .top v
 | undef=>exact .undef
 | ap x v hr=>exact .ap x v (hr.mono (fun _=>uk _) (S.C2 _))
 | nil=>exact .nil
 | cr a cap=>exact .cr a cap
 | aS id af v hr hid ht=>
  refine .aS id af v (hr.mono (fun _=>uk _) (S.C2 _)) hid fun sz len hg => ?_
  obtain ⟨h1,h2,h3⟩:=ht sz len hg
  refine ⟨h1,h2,fun e => ?_⟩
  rcases h3 e with h4 | ⟨b,cap,c,e',h5,h6,h7,h8⟩
  ·exact .inl h4
  ·exact .inr ⟨b,cap,c,e',h5,h6,S.block h7 (by simp),h8⟩
 | cE cells b off cv hz hc hr=>
  exact .cE cells b off cv hz (fun j c h1=>⟨(S.cell _).trans (hc j c h1).1,(hc j c h1).2⟩) (fun j c h1=>(hr j c h1).mono (fun _=>uk _) (S.C2 _))
 | ptr id row off v hid h1 hp=>exact .ptr id row off v hid h1 hp
 | Zaj id off len v hid h1 hp=>
  refine .Zaj id off len v hid h1 fun sz af hg => ?_
  obtain ⟨h2,h3⟩:=hp sz af hg
  refine ⟨h2,?_⟩
  rcases h3 with h4 | ⟨b,cap,c,e',h5,h6,h7,h8,h9⟩
  ·exact .inl h4
  ·exact .inr ⟨b,cap,c,e',h5,h6,h7,S.block h8 (by simp),h9⟩
 | func f first bt vf vc hlf hlc hf hc Ak CC=>exact .func f first bt vf vc hlf hlc Ak CC
 | map id v hid h1 hp=>exact .map id v hid h1 hp
 | agg cs vs hl h1 hr ih=>exact .agg cs vs hl h1 ih
 | tuple cs vs hl hr ih=>exact .tuple cs vs hl ih
 | eH l id hid hp=>exact .eH l id hid hp
theorem RH.shut {Ds:List Nat} {w w2:World} (S:iA Ds w w2) (F:C.Ai g w2) (R:RH C g h N w):RH C g h N w2 where
 inj:=R.inj
 lt:=fun i b hb=>⟨by rw [S.size];exact (R.lt i b hb).1,(R.lt i b hb).2⟩
 key:=R.key
 obj:=fun i b o hb ho=>by
  have H:=R.obj i b o hb ho
  cases o with
  | af sz af=>
   obtain ⟨h0,c,e,h1,h2,h3⟩:=H
   refine ⟨h0,c,e,S.block h1 (by simp),h2,fun i row j x hi hj => ?_⟩
   obtain ⟨cv,h4,h5,h6⟩:=h3 i row j x hi hj
   exact ⟨cv,h4,h5,h6.shut S⟩
  | aU sz len=>obtain ⟨c,e,h1,h2,h3⟩:=H;exact ⟨c,e,S.block h1 (by simp),h2,h3⟩
  | map es=>
   obtain ⟨h0,cF,clock,h1,h2,h3⟩:=H
   refine ⟨h0,cF,clock,S.block h1 (by simp),h2,fun i k x hi => ?_⟩
   obtain ⟨e,h4,h5,h6⟩:=h3 i k x hi
   exact ⟨e,h4,h5,h6.shut S⟩
  | dead=>trivial
  | lp l R s pe=>exact ⟨H.1,H.2.1,S.block H.2.2 (by simp)⟩
 cQ:=R.cQ
 dX:=fun b hb=>by rw [S.size];exact R.dX b hb
 fix:=F
theorem bV.shut {Ds:List Nat} {w0 w w2:World} (S:iA Ds w w2) (hD:∀ D∈Ds,w0.heap.size≤D) (E:bV g h N w0 g' h' N' w):bV g h N w0 g' h' N' w2 where
 os:=S.os.trans E.os
 tape:=S.tape.trans E.tape
 output:=S.output.trans E.output
 size:=by rw [S.size];exact E.size
 old:=fun b hb ho=>⟨(S.keep b (fun hm=>by have:=hD b hm;omega)).trans (E.old b hb ho).1,(E.old b hb ho).2⟩
 own:=E.own
 bW:=E.bW
 cell:=⟨fun b o ho=>(S.cell _).trans (E.cell.c b o ho),fun b cF clock hz hb=>by
  have h1:=E.cell.m b cF clock hz hb
  rw [hb] at h1 ⊢
  exact S.block h1 (by simp)⟩
 shape:=fun b c e hb=>by
  obtain ⟨c',h1,h2⟩:=E.shape b c e hb
  exact ⟨c',S.block h1 (by simp),h2⟩
 next:=E.next
 eu:=E.eu
 cI:=E.cI
 af:=E.af
 cR:=E.cR
 maps:=E.maps
 fJ:=E.fJ
theorem J2 {P:Program} {fn:Func} {tmps:Array Value} {R:Ending→World→Prop}:∀ (Ds:List Nat) (w:World),Ds.Nodup→(∀ D∈Ds,w.heap[D]?=some (.deferred (some []))) →
  (∀ w2,iA Ds w w2→∃ v,(results fn tmps).run P w2=.ok v w2∧R (.returned v) w2)→LeavesInM Fence.wide 0 P fn tmps R (Ds.map fun D=>{target:=.collected D,args := #[]}) .returning w
 | [],w,_,_,h=>h w ⟨rfl,rfl,rfl,rfl,fun _ _=>rfl,fun _ h=>(by cases h),fun _ h=>(by cases h)⟩
 | D::Ds,w,hn,hD,h=>by
  obtain ⟨n1,n2⟩:=List.nodup_cons.1 hn
  have h0:=hD D (by simp)
  have hlt:D < w.heap.size:=(ub.1 h0).1
  refine ⟨by simp,.inl ⟨D,w.putObj D (.deferred none),rfl,run_takeDeferred h0,?_⟩⟩
  have nj:∀ E∈Ds,(w.putObj D (.deferred none)).heap[E]?=some (.deferred (some [])):=fun E hE=>by
   have hne:E≠D:=fun e=>n1 (by rw [←e];exact hE)
   rw [World.putObj_heap_other hne];exact hD E (by simp [hE])
  refine J2 Ds _ n2 nj fun w2 S=>h w2 ⟨S.os,S.tape,S.output,by rw [S.size];simp,fun b hb => ?_,fun E hE => ?_,fun E hE=>⟨_,hD E hE⟩⟩
  ·simp only [uB,not_or] at hb
   rw [S.keep b hb.2,World.putObj_heap_other hb.1]
  ·by_cases hm:E∈Ds
   ·exact S.done E hm
   ·rcases uB.1 hE with rfl | hE
    ·exact ⟨none,by rw [S.keep _ hm];exact World.putObj_heap_same hlt⟩
    ·exact absurd hE hm
theorem WJ {C:bz} (hro:C.ro=none) {f:Nat} {F:dw} (hF:qn C f=some F.erase) {args:List AV} {heap:List (Nat×aD)} {next:Nat} {K:AV→List (Nat×aD)→Nat→Prop} (hn:args.length≤F.nt)
  (h:∀ B,cB C ⟨F.nt,B⟩ F.body (C1 F K) {env:=jn 0 args,heap:=heap,next:=next}) {g:Gh} {w:World} {vs:List Value} (R:RH C g (za heap) (· < next) w) (hv:nG C g (za heap) (· < next) w args vs) (hI:C.inv g ⟨[],heap,next⟩ w) :
  Calls C.P (C.ez f) vs.toArray w fun e w'=>∃ v r heap' next' g',e=.returned v∧K r heap' next' ∧
   bV g (za heap) (· < next) w g' (za heap') (· < next') w'∧RH C g' (za heap') (· < next') w'∧RV C g' (za heap') (· < next') w' r v:=by
 obtain ⟨fn,code,hfn,lO,hname,hnt,hcomp,hres⟩:=Zt hF
 refine callsIn_wide.1 (callsIn_of_wp_marks (n:=0) hfn lO trivial ?_)
 have hsz:vs.length≤F.nt:=by rw [←hv.1];exact hn
 have R0:Rel C ⟨F.nt,w.heap.size⟩ g {env:=jn 0 args,heap:=heap,next:=next} {tmps:=vs.toArray++un (fn.ntmps - vs.toArray.size) undef,defers:=[]} w:=by
  refine ⟨⟨by simp [hnt];omega,Marks.nil _ (uk _),fun t x hx => ?_⟩,R⟩
  obtain ⟨_,h2⟩:=VN args 0 t x hx
  simp only [uS] at h2
  have hlt:t < vs.length:=by rw [←hv.1];exact (ua.1 h2).1
  have cZ:(vs.toArray++un (fn.ntmps - vs.toArray.size) undef).getD t undef=vs[t]:=by
   simp [Array.getElem?_append,hlt]
  show RV C g (za heap) (· < next) w x ((vs.toArray++un (fn.ntmps - vs.toArray.size) undef).getD t undef)
  rw [cZ]
  exact hv.2 t x vs[t] h2 (by simp)
 have hb:=h w.heap.size code hcomp g _ w R0 hI
 rw [hro] at hb
 refine Code.wpIn_mono ?_ hb
 rintro e a' w' ⟨aX,g',⟨he,r,hr,hK⟩,R',E⟩
 have hD:=R'.env.defers
 obtain ⟨lN,Ds,o4,hd2,sB⟩:=hD
 have key:LeavesInM Fence.wide 0 C.P fn a'.tmps (fun e w'=>∃ v r heap' next' g',e=.returned v∧K r heap' next'∧bV g (za heap) (· < next) w g' (za heap') (· < next') w'∧RH C g' (za heap') (· < next') w'∧RV C g' (za heap') (· < next') w' r v) a'.defers .returning w':=by
  rw [o4]
  refine J2 Ds w' hd2 (fun D hD=>(sB D hD).2.1) fun w2 S => ?_
  have R2:Rel C ⟨F.nt,w.heap.size⟩ g' aX {a' with defers:=[]} w2:=⟨⟨R'.env.size,Marks.nil _ (by rw [S.size];exact lN),fun t x hx=>(R'.env.slot t x hx).shut S⟩,R'.heap.shut S (R.fix.eN (E.shut S (fun D hD=>(sB D hD).1)))⟩
  obtain ⟨v,h1,h2⟩:=NF R2 hres hr
  exact ⟨v,h1,v,r,aX.heap,aX.next,g',rfl,hK,E.shut S (fun D hD=>(sB D hD).1),R2.heap,h2⟩
 rcases he with rfl | rfl
 ·exact key
 ·exact key
theorem bH.enter {C:Ctx} {f:Nat} {F:dw} (hF:qn C f=some F.erase) {args:List AV} {heap:List (Nat×aD)} {next:Nat} {K:AV→List (Nat×aD)→Nat→Prop} (hn:args.length≤F.nt)
  (h:∀ B,cB C.plain ⟨F.nt,B⟩ F.body (C1 F K) {env:=jn 0 args,heap:=heap,next:=next}):bH C f args heap next K:=by
 obtain ⟨fn,code,hfn,lO,hname,_⟩:=Zt hF
 exact ⟨⟨fn,hfn,by simp [lO],hname⟩,fun g w vs R hv=>WJ (C:=C.plain) rfl hF hn h R hv trivial⟩
theorem aJ.of {f:Nat} {args:List IV} {r:IV} {d:Nat} (hc:bH C f (args.map .ap) [] 0 fun x heap _=>zC (za heap) d x=some r):aJ C f args r:=by
 refine ⟨hc.1,fun Z w vs hz hf hv => ?_⟩
 have R:RH C ⟨fun _=>none,Z⟩ (za []) (· < 0) w:=⟨fun i j b h=>(by cases h),fun i b h=>(by cases h),fun i o h=>(by simp [za] at h),fun i b o h=>(by cases h),fun i sz len h=>(by simp [za] at h),hz,hf.1,hf.2,fun b hb ⟨i,hi⟩=>(by cases hi)⟩
 refine (hc.2 _ w vs R ⟨by simpa using hv.1,fun j x u hx hu => ?_⟩).mono ?_
 ·simp only [uu,ud] at hx
  obtain ⟨y,hy,rfl⟩:=hx
  exact .ap _ _ (hv.2 j y u hy hu)
 ·rintro e w' ⟨v,x,heap',next',g',rfl,hK,E,R',hx⟩
  have nv:∀ b,¬ vE (⟨fun _=>none,Z⟩:Gh) b:=fun b ⟨i,hi⟩=>(by cases hi)
  let Z1:Nat→Nat:=fun b=>if b < w.heap.size then Z b else match w'.heap[b]? with
   | some (.cells c _ _)=>max (g'.Z b) c.size
   | some (.map _ _)=>max (g'.Z b) 1
   | _=>g'.Z b
  have iz:∀ b,g'.Z b≤Z1 b:=fun b=>by
   show g'.Z b≤(if b < w.heap.size then Z b else match w'.heap[b]? with | some (.cells c _ _)=>max (g'.Z b) c.size | some (.map _ _)=>max (g'.Z b) 1 | _=>g'.Z b)
   split
   ·rename_i hb;rw [(E.old b hb (nv b)).2];exact uk _
   ·split
    ·exact uy _ _
    ·exact uy _ _
    ·exact uk _
  have hO:∀ i b sz af,g'.ρ i=some b→za heap' i=some (.af sz af)→af.length*sz≤Z1 b:=fun i b sz af hb ho=>by
   obtain ⟨hz,c,e,hc,hlen,hcells⟩:=R'.obj i b _ hb ho
   have hnew:¬ b < w.heap.size:=by
    rcases E.own b ⟨i,hb⟩ with h | h
    ·exact absurd h (nv b)
    ·omega
   have hZ:Z1 b=max (g'.Z b) c.size:=by
    show (if b < w.heap.size then Z b else match w'.heap[b]? with | some (.cells c _ _)=>max (g'.Z b) c.size | some (.map _ _)=>max (g'.Z b) 1 | _=>g'.Z b)=_
    rw [if_neg hnew,hc]
   rw [hZ]
   refine uT ?_ (ux _ _)
   rcases ur (af.length*sz) with h0 | h0
   ·omega
   ·have hs:0 < sz:=ut fun e=>by subst e;simp at h0
    have hr:0 < af.length:=ut fun e=>by rw [e] at h0;simp at h0
    have hrow:af[af.length - 1]?=some (af[af.length - 1]'(by omega)):=by simp
    have hl:=hlen _ _ hrow
    obtain ⟨cv,h3,_⟩:=hcells (af.length - 1) _ (sz - 1) ((af[af.length - 1]'(by omega))[sz - 1]'(by omega)) hrow (by simp)
    have hlt:=(ub.1 h3).1
    have:(af.length - 1)*sz+sz=af.length*sz:=by
     rw [←uU];congr 1;omega
    omega
  have hM:∀ i b es,g'.ρ i=some b→za heap' i=some (.map es)→0 < Z1 b:=fun i b es hb ho=>by
   obtain ⟨hz,cF,clock,hw,_⟩:=R'.obj i b _ hb ho
   have hnew:¬ b < w.heap.size:=by
    rcases E.own b ⟨i,hb⟩ with h | h
    ·exact absurd h (nv b)
    ·omega
   have hZ:Z1 b=max (g'.Z b) 1:=by
    show (if b < w.heap.size then Z b else match w'.heap[b]? with | some (.cells c _ _)=>max (g'.Z b) c.size | some (.map _ _)=>max (g'.Z b) 1 | _=>g'.Z b)=_
    rw [if_neg hnew,hw]
   rw [hZ]
   exact ug uP (ux _ _)
  refine ⟨v,Z1,rfl,YV R' Z1 iz hO hM d _ _ _ hK hx,fun b hb => ?_,fun b hb => ?_,⟨E.os,E.tape,E.output,E.size,fun k hk=>(E.old k hk (nv k)).1⟩⟩
  ·show (if b < w.heap.size then Z b else match w'.heap[b]? with | some (.cells c _ _)=>max (g'.Z b) c.size | some (.map _ _)=>max (g'.Z b) 1 | _=>g'.Z b)=Z b
   rw [if_pos hb]
  ·rcases uv b w'.heap.size with h | h
   ·exact h
   ·have hn:w'.heap[b]?=none:=um h
    have hb':Z1 b=g'.Z b:=by
     show (if b < w.heap.size then Z b else match w'.heap[b]? with | some (.cells c _ _)=>max (g'.Z b) c.size | some (.map _ _)=>max (g'.Z b) 1 | _=>g'.Z b)=_
     have:=E.size
     rw [if_neg (by omega),hn]
    exact R'.dX b (by omega)
end
end
section
def zP (m:Nat):AV→Bool
 | .aS i _=>decide (i < m)
 | .ptr i _ _=>decide (i < m)
 | .Zaj i _ _=>decide (i < m)
 | .map i=>decide (i < m)
 | .eH _ i=>decide (i < m)
 | .func _ _ _ | .agg _ | .tuple _=>false
 | _=>true
def xx (m:Nat):AV→Bool
 | .func _ first bt=>first.all (zP m)&&bt.all (zP m)
 | .agg cs=>cs.all (zP m)
 | .tuple cs=>cs.all (zP m)
 | x=>zP m x
def zX (m:Nat):AV→Bool
 | .tuple cs=>cs.all (xx m)
 | x=>xx m x
def zY (m:Nat):aD→Prop
 | .af _ af=>∀ row∈af,∀ x∈row,zX m x=true
 | .aU _ _=>True
 | .map es=>∀ e∈es,zX m e.2=true
 | .dead=>True
 | .lp _ _ _ _=>True
section
variable {C:Ctx} {nt:Fr} {g g':Gh} {h h':Nat→Option aD} {N N':Nat→Prop} {st aX:St} {a:Act} {w w':World} {m:Nat}
def Gh.below (g:Gh) (m:Nat):Gh:=⟨fun i=>if i < m then g.ρ i else none,g.Z⟩
theorem RV.leaf (hh:∀ i o,h' i=some o→h i=some o) {x:AV} {v:Value} (hb:zP m x=true) (hv:RV C g h N w x v):RV C (g.below m) h' (· < m) w x v:=by
 cases hv with
 | top v=>exact .top v
 | undef=>exact .undef
 | ap x v hr=>exact .ap x v hr
 | nil=>exact .nil
 | cr a cap=>exact .cr a cap
 | eH l i hid hp=>
  have fj:i < m:=by simpa [zP] using hb
  refine .eH l i fj fun R s pe hg => ?_
  simp only [Gh.below,if_pos fj]
  exact hp R s pe (hh i _ hg)
 | aS i af v hr hid ht=>
  have fj:i < m:=by simpa [zP] using hb
  refine .aS i af v hr fj fun sz len hg => ?_
  obtain ⟨h1,h2,h3⟩:=ht sz len (hh i _ hg)
  refine ⟨h1,h2,fun e => ?_⟩
  simp only [Gh.below,if_pos fj]
  exact h3 e
 | cE cells b off cv hz hc hr=>exact .cE cells b off cv hz hc hr
 | ptr i row off v hid h1 hp=>
  have fj:i < m:=by simpa [zP] using hb
  refine .ptr i row off v fj h1 fun sz af hg => ?_
  simp only [Gh.below,if_pos fj]
  exact hp sz af (hh i _ hg)
 | Zaj i off len v hid h1 hp=>
  have fj:i < m:=by simpa [zP] using hb
  refine .Zaj i off len v fj h1 fun sz af hg => ?_
  simp only [Gh.below,if_pos fj]
  exact hp sz af (hh i _ hg)
 | map i v hid h1 hp=>
  have fj:i < m:=by simpa [zP] using hb
  refine .map i v fj h1 fun es hg => ?_
  simp only [Gh.below,if_pos fj]
  exact hp es (hh i _ hg)
 | func=>simp [zP] at hb
 | agg=>simp [zP] at hb
 | tuple=>simp [zP] at hb
theorem RV.fT (hh:∀ i o,h' i=some o→h i=some o) {x:AV} {v:Value} (hb:xx m x=true) (hv:RV C g h N w x v):RV C (g.below m) h' (· < m) w x v:=by
 cases hv with
 | func f first bt vf vc hlf hlc hf hc=>
  simp only [xx,uj,ue] at hb
  exact .func f first bt vf vc hlf hlc (fun i c v h1 h2=>(hf i c v h1 h2).leaf hh (hb.1 c (uc h1))) (fun i c v h1 h2=>(hc i c v h1 h2).leaf hh (hb.2 c (uc h1)))
 | agg cs vs hl h1 hr=>
  simp only [xx,ue] at hb
  exact .agg cs vs hl h1 fun i c v h2 h3=>(hr i c v h2 h3).leaf hh (hb c (uc h2))
 | tuple cs vs hl hr=>
  simp only [xx,ue] at hb
  exact .tuple cs vs hl fun i c v h2 h3=>(hr i c v h2 h3).leaf hh (hb c (uc h2))
 | top v=>exact .top v
 | undef=>exact .undef
 | ap x v hr=>exact .ap x v hr
 | nil=>exact .nil
 | cr a cap=>exact .cr a cap
 | eH l i hid hp=>exact RV.leaf hh hb (.eH l i hid hp)
 | aS i af v hr hid ht=>exact RV.leaf hh hb (.aS i af v hr hid ht)
 | cE cells b off cv hz hc hr=>exact .cE cells b off cv hz hc hr
 | ptr i row off v hid h1 hp=>exact RV.leaf hh hb (.ptr i row off v hid h1 hp)
 | Zaj i off len v hid h1 hp=>exact RV.leaf hh hb (.Zaj i off len v hid h1 hp)
 | map i v hid h1 hp=>exact RV.leaf hh hb (.map i v hid h1 hp)
theorem RV.restrict (hh:∀ i o,h' i=some o→h i=some o) {x:AV} {v:Value} (hb:zX m x=true) (hv:RV C g h N w x v):RV C (g.below m) h' (· < m) w x v:=by
 cases hv with
 | tuple cs vs hl hr=>
  simp only [zX,ue] at hb
  exact .tuple cs vs hl fun i c v h2 h3=>(hr i c v h2 h3).fT hh (hb c (uc h2))
 | func f first bt vf vc hlf hlc hf hc=>exact RV.fT hh hb (.func f first bt vf vc hlf hlc hf hc)
 | agg cs vs hl h1 hr=>exact RV.fT hh hb (.agg cs vs hl h1 hr)
 | top v=>exact .top v
 | undef=>exact .undef
 | ap x v hr=>exact .ap x v hr
 | nil=>exact .nil
 | cr a cap=>exact .cr a cap
 | eH l i hid hp=>exact RV.leaf hh hb (.eH l i hid hp)
 | aS i af v hr hid ht=>exact RV.leaf hh hb (.aS i af v hr hid ht)
 | cE cells b off cv hz hc hr=>exact .cE cells b off cv hz hc hr
 | ptr i row off v hid h1 hp=>exact RV.leaf hh hb (.ptr i row off v hid h1 hp)
 | Zaj i off len v hid h1 hp=>exact RV.leaf hh hb (.Zaj i off len v hid h1 hp)
 | map i v hid h1 hp=>exact RV.leaf hh hb (.map i v hid h1 hp)
theorem RH.restrict (R:RH C g h N w) (hN:∀ i,i < m→N i∨h' i=none) (hh:∀ i o,h' i=some o→h i=some o∧i < m∧zY m o):RH C (g.below m) h' (· < m) w:=by
 have nw:∀ i o,h' i=some o→h i=some o:=fun i o ho=>(hh i o ho).1
 have hr:∀ i b,(g.below m).ρ i=some b→i < m∧g.ρ i=some b:=fun i b hb=>by
  simp only [Gh.below] at hb
  split at hb
  ·rename_i fj;exact ⟨fj,hb⟩
  ·cases hb
 refine ⟨fun i j b hi hj=>R.inj i j b (hr i b hi).2 (hr j b hj).2,fun i b hb=>⟨(R.lt i b (hr i b hb).2).1,(hr i b hb).1⟩,fun i o ho=>(hh i o ho).2.1,fun i b o hb ho => ?_,fun i sz len ho hn => ?_,R.dX,R.fix.1,R.fix.2.1,fun b hb ⟨i,hi⟩=>R.fix.2.2 b hb ⟨i,(hr i b hi).2⟩⟩
 ·have H:=R.obj i b o (hr i b hb).2 (nw i o ho)
  have hbel:=(hh i o ho).2.2
  cases o with
  | af sz af=>
   obtain ⟨h0,c,e,h1,h2,h3⟩:=H
   refine ⟨h0,c,e,h1,h2,fun k row j x hk hj => ?_⟩
   obtain ⟨cv,h4,h5,h6⟩:=h3 k row j x hk hj
   exact ⟨cv,h4,h5,h6.restrict nw (hbel row (uc hk) x (uc hj))⟩
  | aU sz len=>exact H
  | dead=>trivial
  | lp l R s pe=>exact H
  | map es=>
   obtain ⟨h0,cF,clock,h1,h2,h3⟩:=H
   refine ⟨h0,cF,clock,h1,h2,fun k kk x hk => ?_⟩
   obtain ⟨e,h4,h5,h6⟩:=h3 k kk x hk
   exact ⟨e,h4,h5,h6.restrict nw (hbel (kk,x) (uc hk))⟩
 ·have fj:=(hh i _ ho).2.1
  simp only [Gh.below,if_pos fj] at hn
  exact R.cQ i sz len (nw i _ ho) hn
theorem jo {α:Type}:∀ {l:List (Nat×α)} {i:Nat} {x:α},za l i=some x→(i,x)∈l
 | [],i,x,h=>by simp [za] at h
 | (k,v)::r,i,x,h=>by
  simp only [za] at h
  split at h
  ·rename_i e;subst e;cases h;exact uz
  ·exact uH _ (jo h)
theorem Qz {st aX:St} (hn:aX.next≤st.next) (he:∀ p∈aX.env,za st.env p.1=some p.2∧zX aX.next p.2=true)
  (hh:∀ p∈aX.heap,za st.heap p.1=some p.2∧p.1 < aX.next∧zY aX.next p.2):bO st aX:=by
 intro C nt g a w R
 have AE:∀ i o,za aX.heap i=some o→za st.heap i=some o∧i < aX.next∧zY aX.next o:=fun i o ho=>hh (i,o) (jo ho)
 have nw:∀ i o,za aX.heap i=some o→za st.heap i=some o:=fun i o ho=>(AE i o ho).1
 refine ⟨g.below aX.next,⟨⟨R.env.size,R.env.defers.sub (fun b ⟨i,hi⟩=>⟨i,by simp only [Gh.below] at hi;split at hi;exact hi;cases hi⟩),fun t x hx => ?_⟩,R.heap.restrict (fun i hi=>.inl (ug hi hn)) AE⟩,fun g0 cM w0 hm E => ?_⟩
 ·obtain ⟨h1,h2⟩:=he (t,x) (jo hx)
  exact (R.env.slot t x h1).restrict nw h2
 ·have hr:∀ i,i < aX.next→(g.below aX.next).ρ i=g.ρ i:=fun i hi=>by simp only [Gh.below,if_pos hi]
  exact {
   os:=E.os
   tape:=E.tape
   output:=E.output
   size:=E.size
   old:=E.old
   own:=fun b ⟨i,hi⟩=>by
    simp only [Gh.below] at hi
    split at hi
    ·exact E.own b ⟨i,hi⟩
    ·cases hi
   bW:=E.bW
   cell:=E.cell
   shape:=E.shape
   next:=fun i hi=>ug hi hm
   eu:=fun i b hb o ho hnd hi=>by
    rw [hr i (ug hi hm)]
    exact E.eu i b hb o (nw i o ho) hnd hi
   cI:=fun i hb hi o ho hnd=>by
    rw [hr i (ug hi hm)]
    exact E.cI i hb hi o (nw i o ho) hnd
   af:=fun i hi sz af ho=>E.af i hi sz af (nw i _ ho)
   cR:=fun i hi sz len ho=>E.cR i hi sz len (nw i _ ho)
   maps:=fun i hi es ho=>E.maps i hi es (nw i _ ho)
   fJ:=fun i hi ll RR s pe ho=>E.fJ i hi ll RR s pe (nw i _ ho)}
theorem NG {st:St} {t sz:Nat} (ht:za st.env t=some .nil) :
  bO st {env:=zk st.env t (.aS st.next []),heap:=zo st.heap st.next (.aU sz 0),next:=st.next+1}:=by
 intro C nt g a w R
 obtain ⟨g',E,H,hv⟩:=JX (id:=st.next) R.heap (Nat.lt_irrefl _) sz
 rw [jW] at E H hv
 have e1:bA [(st.next,aD.aU sz 0)] (za st.heap)=za (zo st.heap st.next (.aU sz 0)):=by
  funext i;simp only [bA,zr]
 rw [e1] at E H hv
 refine ⟨g',⟨⟨R.env.size,R.env.defers.eN E,fun t' x hx => ?_⟩,H⟩,fun g0 cM w0 hm E0=>E0.trans E⟩
 rw [zm] at hx
 split at hx
 ·rename_i e
  subst e
  cases hx
  have:=R.env.slot t _ ht
  rw [xg this]
  exact hv
 ·exact (R.env.slot t' x hx).mono E
end
end
structure Rec where
 dst:Option Nat
 r:AV
 aN:List (Nat×aD)
 rd:List Nat
 ex:List Nat
def vN (f:Nat→Option AV):Option Nat→AV→Nat→Option AV
 | none,_=>f
 | some d,x=>fun t=>if d=t then some x else f t
def qU:List Rec→(Nat→Bool)→Nat→(Nat→Option AV)→Nat→Option AV
 | [],_,_,f=>f
 | rc::rs,L,k,f=>qU rs L (k+1) (if L k then vN f rc.dst rc.r else f)
def qk:List Rec→(Nat→Bool)→Nat→(Nat→Option aD)→Nat→Option aD
 | [],_,_,h=>h
 | rc::rs,L,k,h=>qk rs L (k+1) (if L k then bA rc.aN h else h)
def z6 (aN:List (Nat×aD)):List Nat:=aN.map (·.1)
theorem vo:∀ {aN:List (Nat×aD)} {h:Nat→Option aD} {i:Nat},i ∉ z6 aN→bA aN h i=h i
 | [],_,_,_=>rfl
 | (k,o)::r,h,i,hi=>by
  simp only [z6,uR,uB,not_or] at hi
  simp only [bA]
  rw [if_neg (fun e=>hi.1 e.symm)]
  exact vo hi.2
theorem C3:∀ {aN:List (Nat×aD)} {h h':Nat→Option aD} {i:Nat},i∈z6 aN→bA aN h i=bA aN h' i
 | [],_,_,_,hi=>by simp [z6] at hi
 | (k,o)::r,h,h',i,hi=>by
  simp only [bA]
  split
  ·rfl
  ·rename_i e
   simp only [z6,uR,uB] at hi
   rcases hi with hi | hi
   ·exact absurd hi.symm e
   ·exact C3 hi
theorem wJ {t:Nat}:∀ (recs:List Rec) (L1 L2:Nat→Bool) (k:Nat) (f1 f2:Nat→Option AV),(∀ (j:Nat) (rc:Rec),recs[j]?=some rc→rc.dst=some t→L1 (k+j)=L2 (k+j))→f1 t=f2 t →
  qU recs L1 k f1 t=qU recs L2 k f2 t
 | [],_,_,_,_,_,_,e=>e
 | rc::rs,L1,L2,k,f1,f2,hc,e=>by
  refine wJ rs L1 L2 (k+1) _ _ (fun j tM hj hd=>by have:=hc (j+1) tM (by simpa using hj) hd;rwa [show k+(j+1)=k+1+j by omega] at this) ?_
  by_cases hd:rc.dst=some t
  ·have:=hc 0 rc rfl hd
   simp only [uw] at this
   rw [this]
   split
   ·simp [hd,vN]
   ·exact e
  ·have hp:∀ f:Nat→Option AV,vN f rc.dst rc.r t=f t:=fun f=>by
    cases hdd:rc.dst with
    | none=>rfl
    | some d=>simp only [vN];rw [if_neg (fun e=>hd (by rw [hdd,e]))]
   have h1:(if L1 k then vN f1 rc.dst rc.r else f1) t=f1 t:=by split<;>simp [hp]
   have h2:(if L2 k then vN f2 rc.dst rc.r else f2) t=f2 t:=by split<;>simp [hp]
   rw [h1,h2,e]
theorem yH {i:Nat}:∀ (recs:List Rec) (L1 L2:Nat→Bool) (k:Nat) (h1 h2:Nat→Option aD),(∀ (j:Nat) (rc:Rec),recs[j]?=some rc→i∈z6 rc.aN→L1 (k+j)=L2 (k+j))→h1 i=h2 i →
  qk recs L1 k h1 i=qk recs L2 k h2 i
 | [],_,_,_,_,_,_,e=>e
 | rc::rs,L1,L2,k,h1,h2,hc,e=>by
  refine yH rs L1 L2 (k+1) _ _ (fun j tM hj hd=>by have:=hc (j+1) tM (by simpa using hj) hd;rwa [show k+(j+1)=k+1+j by omega] at this) ?_
  by_cases hd:i∈z6 rc.aN
  ·have:=hc 0 rc rfl hd
   simp only [uw] at this
   rw [this]
   split
   ·exact C3 hd
   ·exact e
  ·have h3:(if L1 k then bA rc.aN h1 else h1) i=h1 i:=by split<;>simp [vo hd]
   have h4:(if L2 k then bA rc.aN h2 else h2) i=h2 i:=by split<;>simp [vo hd]
   rw [h3,h4,e]
def yj (L:Nat→Bool) (i:Nat):Nat→Bool:=fun k=>if k=i then true else L k
theorem xT (L:Nat→Bool) {i k:Nat} (h:k≠i):yj L i k=L k:=by simp only [yj];rw [if_neg h]
theorem Zb (L:Nat→Bool) (i:Nat):yj L i i=true:=by simp [yj]
theorem KR:∀ (recs:List Rec) (L:Nat→Bool) (k i:Nat) (rc:Rec) (f:Nat→Option AV) (t:Nat),recs[i]?=some rc→(∀ (j:Nat) (rj:Rec) (d:Nat),recs[j]?=some rj→j≠i→rc.dst=some d→rj.dst≠some d)→L (k+i)=false →
  qU recs (yj L (k+i)) k f t=vN (qU recs L k f) rc.dst rc.r t
 | [],L,k,i,rc,f,t,hi,_,_=>by simp at hi
 | r0::rs,L,k,0,rc,f,t,hi,hd,hL=>by
  simp at hi
  subst hi
  simp only [uw] at hL ⊢
  simp only [qU,Zb,if_true,hL,ul,if_false]
  cases ff:r0.dst with
  | none=>exact wJ rs _ _ _ _ _ (fun j tM hj _=>xT _ (by omega)) rfl
  | some d=>
   simp only [vN]
   by_cases e:d=t
   ·subst e
    rw [if_pos rfl]
    have:∀ (rs:List Rec) (L:Nat→Bool) (k:Nat) (f:Nat→Option AV),(∀ (j:Nat) (rj:Rec),rs[j]?=some rj→rj.dst≠some d)→qU rs L k f d=f d:=by
     intro rs
     induction rs with
     | nil=>intro L k f _;rfl
     | cons r1 rs ih=>
      intro L k f hn
      simp only [qU]
      rw [ih _ _ _ (fun j rj hj=>hn (j+1) rj (by simpa using hj))]
      have h1:=hn 0 r1 rfl
      split
      ·cases o4:r1.dst with
       | none=>rfl
       | some d1=>simp only [vN];rw [if_neg (fun e=>h1 (by rw [o4,e]))]
      ·rfl
    rw [this _ _ _ _ (fun j rj hj=>hd (j+1) rj d (by simpa using hj) (by omega) ff)]
    simp
   ·rw [if_neg e]
    exact wJ rs _ _ _ _ _ (fun j tM hj _=>xT _ (by omega)) (by simp [e])
 | r0::rs,L,k,i+1,rc,f,t,hi,hd,hL=>by
  simp only [qU]
  have hk:yj L (k+(i+1)) k=L k:=xT _ (by omega)
  rw [hk,show k+(i+1)=k+1+i by omega]
  exact KR rs L (k+1) i rc _ t (by simpa using hi) (fun j rj d hj hne=>hd (j+1) rj d (by simpa using hj) (by omega)) (by rw [show k+1+i=k+(i+1) by omega];exact hL)
theorem KS:∀ (recs:List Rec) (L:Nat→Bool) (k i:Nat) (rc:Rec) (h:Nat→Option aD) (x:Nat),recs[i]?=some rc →
  (∀ (j:Nat) (rj:Rec),recs[j]?=some rj→i < j→L (k+j)=true→∀ y,y∈z6 rc.aN→y ∉ z6 rj.aN)→L (k+i)=false →
  qk recs (yj L (k+i)) k h x=bA rc.aN (qk recs L k h) x
 | [],L,k,i,rc,h,x,hi,_,_=>by simp at hi
 | r0::rs,L,k,0,rc,h,x,hi,hd,hL=>by
  simp at hi
  subst hi
  simp only [uw] at hL ⊢
  simp only [qk,Zb,if_true,hL,ul,if_false]
  by_cases hx:x∈z6 r0.aN
  ·have:∀ (rs:List Rec) (L':Nat→Bool) (k':Nat) (h':Nat→Option aD),(∀ (j:Nat) (rj:Rec),rs[j]?=some rj→L' (k'+j)=true→x ∉ z6 rj.aN)→qk rs L' k' h' x=h' x:=by
    intro rs
    induction rs with
    | nil=>intro L' k' h' _;rfl
    | cons r1 rs ih=>
     intro L' k' h' hn
     simp only [qk]
     rw [ih _ _ _ (fun j rj hj hl=>hn (j+1) rj (by simpa using hj) (by rwa [show k'+(j+1)=k'+1+j by omega]))]
     split
     ·rename_i hl;exact vo (hn 0 r1 rfl (by simpa using hl))
     ·rfl
   rw [this _ _ _ _ (fun j rj hj hl=>by
    rw [xT _ (by omega)] at hl
    exact hd (j+1) rj (by simpa using hj) (by omega) (by rwa [show k+(j+1)=k+1+j by omega]) x hx)]
   exact C3 hx
  ·rw [vo hx]
   exact yH rs _ _ _ _ _ (fun j tM hj _=>xT _ (by omega)) (by simp [vo hx])
 | r0::rs,L,k,i+1,rc,h,x,hi,hd,hL=>by
  simp only [qk]
  have hk:yj L (k+(i+1)) k=L k:=xT _ (by omega)
  rw [hk,show k+(i+1)=k+1+i by omega]
  exact KS rs L (k+1) i rc _ x (by simpa using hi) (fun j rj hj hlt hl=>hd (j+1) rj (by simpa using hj) (by omega) (by rwa [show k+(j+1)=k+1+j by omega])) (by rw [show k+1+i=k+(i+1) by omega];exact hL)
def qV:AV→List Nat
 | .aS i _=>[i]
 | .ptr i _ _=>[i]
 | .Zaj i _ _=>[i]
 | .map i=>[i]
 | _=>[]
def qc:cO→List aZ
 | .dh x | .box _ x | .load _ _ x | .nP _ x | .not x | .neg x | .conv _ x | .len x | .lens x | .ir x | .ext x _ | .mks _ _ _ x=>[x]
 | .pick c a b=>[c,a,b]
 | .alloc _ _ | .fc=>[]
 | .build _ ps=>ps.map (·.2.2)
 | .cU _ _ _ ps=>ps.map (·.2)
 | .store _ x v | .idx _ x v | .idxa _ _ x v | .bin _ x v | .oR _ x v | .eqs _ _ x v | .mm _ x v | .eZ _ x v | .app _ _ x v=>[x,v]
 | .pg _ a b=>a++b
 | .look _ _ _ m k=>[m,k]
 | .upd _ m k v=>[m,k,v]
 | .slc _ x lo hi=>[x]++lo.toList++hi.toList
 | .oS x=>[x]
 | .BI _ x=>[x]
 | .eqnm _ x v=>[x,v]
 | .cut _ _ _ x=>[x]
 | .copy _ d x=>[d,x]
 | .ixa _ _ x i=>[x,i]
 | .call f args=>f::args
def wd (op:cO) (ev:aZ→AV):List Nat:=(qc op).flatMap fun x=>qV (ev x)
def zj (op:cO) (ev:aZ→AV):List Nat:=match op with
 | .dh _=>[]
 | op=>wd op ev
theorem NH {op:cO} {ev:aZ→AV} {h h':Nat→Option aD} {id:Nat} (ha:∀ i∈wd op ev,h' i=h i):ai op ev h' id=ai op ev h id:=by
 have ht:∀ x∈qc op,∀ i∈qV (ev x),h' i=h i:=fun x hx i hi=>ha i (by simp only [wd,List.mem_flatMap];exact ⟨x,hx,hi⟩)
 have hro:∀ x∈qc op,xI h' (ev x)=xI h (ev x):=fun x hx=>by
  unfold xI
  split<;>try rfl
  rename_i i off len e
  rw [ht x hx i (by rw [e];simp [qV])]
 have hlo:∀ x∈qc op,wv h' (ev x)=wv h (ev x):=fun x hx=>by
  unfold wv
  split<;>try rfl
  rename_i i off len e
  rw [ht x hx i (by rw [e];simp [qV])]
 have hme:∀ x∈qc op,jw h' (ev x)=jw h (ev x):=fun x hx=>by
  unfold jw
  split<;>try rfl
  rename_i i e
  rw [ht x hx i (by rw [e];simp [qV])]
 have hmn:∀ x∈qc op,vF h' (ev x)=vF h (ev x):=fun x hx=>by
  unfold vF
  split<;>try rfl
  rename_i i e
  rw [ht x hx i (by rw [e];simp [qV])]
 cases op with
 | eqnm neg x y=>simp only [ai,hmn x (by simp [qc])]
 | load ag n x=>
  simp only [ai]
  split<;>try rfl
  rename_i i r o e
  rw [ht x (by simp [qc]) i (by rw [e];simp [qV])]
 | store n x v=>
  simp only [ai]
  split<;>try rfl
  rename_i i r o cs e _
  rw [ht x (by simp [qc]) i (by rw [e];simp [qV])]
 | nP off x=>
  simp only [ai]
  split<;>try rfl
  rename_i i r o e
  rw [ht x (by simp [qc]) i (by rw [e];simp [qV])]
 | idx sz x i=>
  simp only [ai]
  split<;>try rfl
  split<;>try rfl
  rename_i j off len e
  rw [ht x (by simp [qc]) j (by rw [e];simp [qV])]
 | idxa n sz x i=>
  simp only [ai]
  split<;>try rfl
  rename_i k m j e1 e2
  rw [ht x (by simp [qc]) j (by rw [e2];simp [qV])]
 | len x=>simp only [ai,hlo x (by simp [qc])]
 | ir x=>
  simp only [ai]
  split<;>try rfl
  rename_i i e
  rw [ht x (by simp [qc]) i (by rw [e];simp [qV])]
 | look s z ok m k=>simp only [ai,hme m (by simp [qc])]
 | upd s m k v=>
  simp only [ai]
  split<;>try rfl
  rename_i i kv e1 e2
  rw [ht m (by simp [qc]) i (by rw [e1];simp [qV])]
 | oS x=>
  simp only [ai]
  split<;>try rfl
  rename_i i r o e
  rw [ht x (by simp [qc]) i (by rw [e];simp [qV])]
 | copy sz d x=>
  have oX:jP h' (ev x)=jP h (ev x):=by
   unfold jP
   split
   ·rename_i i off len e
    rw [ht x (by simp [qc]) i (by rw [e];simp [qV])]
   ·rw [hro x (by simp [qc])]
  simp only [ai,BJ,oX]
  split<;>try rfl
  rename_i i len e
  rw [ht d (by simp [qc]) i (by rw [e];simp [qV])]
 | app sz bI s x=>
  have oX:jP h' (ev x)=jP h (ev x):=by
   unfold jP
   split
   ·rename_i i off len e
    rw [ht x (by simp [qc]) i (by rw [e];simp [qV])]
   ·rw [hro x (by simp [qc])]
  simp only [ai]
  split
  ·rename_i i off len e
   have:=ht s (by simp [qc]) i (by rw [e];simp [qV])
   simp only [QZ,oX,this]
  ·simp only [JO,hro x (by simp [qc])]
   split<;>try rfl
   split<;>try rfl
   split<;>try rfl
   rename_i i af e2
   rw [ht s (by simp [qc]) i (by rw [e2];simp [qV])]
 | _=>rfl
theorem NI {op:cO} {ev:aZ→AV} {h h':Nat→Option aD} {id:Nat} (ha:∀ i∈zj op ev,h' i=h i):ai op ev h' id=ai op ev h id:=by
 cases op with
 | dh x=>rfl
 | _=>exact NH ha
section
def xc (N:Nat→Prop) (l:List Nat):Nat→Prop:=fun i=>N i∨i∈l
theorem J3 (N:Nat→Prop):xc N []=N:=by funext i;simp [xc]
def dz (C:Ctx) (f:Nat) (args:List AV) (h0:Nat→Option aD) (rd:List Nat) (r:AV) (aN:List (Nat×aD)) (ex:List Nat):Prop:=yh C f ∧
 ∀ (g:Gh) (h:Nat→Option aD) (N:Nat→Prop) (w:World) (vs:List Value),(∀ i∈rd,h i=h0 i)→(∀ i∈ex,¬ N i)→RH C g h N w→nG C g h N w args vs →
  Calls C.P (C.ez f) vs.toArray w fun e w'=>∃ v g',e=.returned v∧bV g h N w g' (bA aN h) (xc N ex) w'∧RH C g' (bA aN h) (xc N ex) w'∧RV C g' (bA aN h) (xc N ex) w' r v
def ny (C:Ctx) (it:aM) (st:St) (rc:Rec):Prop:=
 match z8 st.env it.guard with
 | some false=>rc.r=.undef∧rc.aN=[]∧rc.ex=[]
 | some true=>match it.op with
  | .call f args=>match zd st.env f with
   | .func f' first bt=>dz C f' (first++args.map (zd st.env)++bt) (za st.heap) rc.rd rc.r rc.aN rc.ex
   | _=>False
  | op=>ai op (zd st.env) (za st.heap) st.next=some (rc.r,rc.aN)∧rc.rd=zj op (zd st.env)∧rc.ex=[]
 | none=>False
def Qq (C:Ctx):List aM→St→List Rec→St→Prop
 | [],st,[],aX=>aX=st
 | it::its,st,rc::recs,aX=>rc.dst=it.dst∧ny C it st rc∧Qq C its (st.after it.dst rc.r rc.aN) recs aX
 | _,_,_,_=>False
def jU (a b:Rec):Bool:=(z6 a.aN).any (fun i=>b.rd.contains i||(z6 b.aN).contains i)||(z6 b.aN).any (fun i=>a.rd.contains i)
def Q8 (ord:List Nat) (recs:List Rec):Bool:=
 (uW recs.length).all fun j=>match recs[j]? with
  | some rj=>(z6 rj.aN).isEmpty&&rj.rd.isEmpty||(uW j).all fun i=>match recs[i]? with
   | some ri=>ed ord i j || !jU ri rj
   | none=>true
  | none=>true
section
variable {C:Ctx} {nt:Fr} {g g':Gh} {st aX:St} {a:Act} {w w':World}
theorem Q9 {ord:List Nat} {recs:List Rec} (hm:Q8 ord recs=true) {i j:Nat} {ri rj:Rec} (hi:recs[i]?=some ri) (hj:recs[j]?=some rj) (hlt:i < j) (hc:jU ri rj=true):ed ord i j=true:=by
 unfold Q8 at hm
 have hjl:j < recs.length:=(ua.1 hj).1
 have h1:=ue.1 hm j (by simp [hjl])
 simp only [hj,uh,uj,List.isEmpty_iff] at h1
 rcases h1 with ⟨h2,h3⟩ | h1
 ·simp [jU,h2,h3] at hc
 ·have h2:=ue.1 h1 i (by simp [hlt])
  simp only [hi,uh,uN] at h2
  rcases h2 with h2 | h2
  ·exact h2
  ·rw [hc] at h2;cases h2
theorem Ja:∀ {items:List aM} {st:St} {recs:List Rec} {aX:St},Qq C items st recs aX→recs.length=items.length
 | [],_,[],_,_=>rfl
 | [],_,_::_,_,h=>h.elim
 | _::_,_,[],_,h=>h.elim
 | it::its,st,rc::recs,aX,h=>by simp [Ja h.2.2]
theorem ZU (st:St) (dst:Option Nat) (r:AV) (aN:List (Nat×aD)):za (st.after dst r aN).env=vN (za st.env) dst r:=by
 cases dst with
 | none=>rfl
 | some d=>funext t;simp only [St.after,St.put,vN,zm]
theorem Zu (st:St) (dst:Option Nat) (r:AV) (aN:List (Nat×aD)):za (st.after dst r aN).heap=bA aN (za st.heap):=by
 cases dst<;>simp only [St.after,St.put,jL]
theorem VO (st:St) (dst:Option Nat) (r:AV) (aN:List (Nat×aD)):(st.after dst r aN).next=st.next+1:=by
 cases dst<;>rfl
theorem YW:∀ (items:List aM) (st:St) (recs:List Rec) (aX:St) (k:Nat),Qq C items st recs aX→∀ (i:Nat) (it:aM) (rc:Rec),items[i]?=some it→recs[i]?=some rc →
  ∃ fA,ny C it fA rc∧rc.dst=it.dst∧za fA.env=qU recs (fun j=>decide (j < k+i)) k (za st.env)∧za fA.heap=qk recs (fun j=>decide (j < k+i)) k (za st.heap)∧fA.next=st.next+i
 | [],_,[],_,_,_,i,it,rc,hi,_=>by simp at hi
 | [],_,_::_,_,_,h,_,_,_,_,_=>h.elim
 | _::_,_,[],_,_,h,_,_,_,_,_=>h.elim
 | FM::its,st,tN::recs,aX,k,⟨h1,h2,h3⟩,0,it,rc,hi,hr=>by
  simp at hi hr
  subst hi;subst hr
  refine ⟨st,h2,h1,?_,?_,rfl⟩
  ·funext t
   have:qU (tN::recs) (fun j=>decide (j < k+0)) k (za st.env) t=qU (tN::recs) (fun _=>false) k (za st.env) t:=wJ _ _ _ _ _ _ (fun j rc _ _=>by simp) rfl
   rw [this]
   have:∀ (l:List Rec) (k:Nat) (f:Nat→Option AV),qU l (fun _=>false) k f=f:=by
    intro l
    induction l with
    | nil=>intro k f;rfl
    | cons r l ih=>intro k f;simp [qU,ih]
   rw [this]
  ·funext t
   have:qk (tN::recs) (fun j=>decide (j < k+0)) k (za st.heap) t=qk (tN::recs) (fun _=>false) k (za st.heap) t:=yH _ _ _ _ _ _ (fun j rc _ _=>by simp) rfl
   rw [this]
   have:∀ (l:List Rec) (k:Nat) (f:Nat→Option aD),qk l (fun _=>false) k f=f:=by
    intro l
    induction l with
    | nil=>intro k f;rfl
    | cons r l ih=>intro k f;simp [qk,ih]
   rw [this]
 | FM::its,st,tN::recs,aX,k,⟨h1,h2,h3⟩,i+1,it,rc,hi,hr=>by
  obtain ⟨fA,h4,h5,h6,h7,h8⟩:=YW its _ recs aX (k+1) h3 i it rc (by simpa using hi) (by simpa using hr)
  refine ⟨fA,h4,h5,?_,?_,by rw [h8,VO];omega⟩
  ·rw [h6,ZU,←h1]
   simp only [qU]
   rw [show k+1+i=k+(i+1) by omega]
   simp
  ·rw [h7,Zu]
   simp only [qk]
   rw [show k+1+i=k+(i+1) by omega]
   simp
theorem W0:∀ (items:List aM) (st:St) (recs:List Rec) (aX:St) (k:Nat) (L:Nat→Bool),Qq C items st recs aX→(∀ j,j < items.length→L (k+j)=true) →
  za aX.env=qU recs L k (za st.env)∧za aX.heap=qk recs L k (za st.heap)∧aX.next=st.next+items.length
 | [],_,[],_,_,_,h,_=>by cases h;exact ⟨rfl,rfl,rfl⟩
 | [],_,_::_,_,_,_,h,_=>h.elim
 | _::_,_,[],_,_,_,h,_=>h.elim
 | FM::its,st,tN::recs,aX,k,L,⟨h1,h2,h3⟩,hL=>by
  obtain ⟨h4,h5,h6⟩:=W0 its _ recs aX (k+1) L h3 (fun j hj=>by have:=hL (j+1) (by simp;omega);rwa [show k+(j+1)=k+1+j by omega] at this)
  have h0:=hL 0 (by simp)
  simp only [uw] at h0
  refine ⟨?_,?_,by rw [h6,VO];simp;omega⟩
  ·rw [h4,ZU,←h1];simp only [qU,h0,if_true]
  ·rw [h5,Zu];simp only [qk,h0,if_true]
theorem NJ (acc:Array Nat) (i:Nat):∀ (l:List Edge) (s:Nat),(l.foldl (fun s e=>if Region.binds .any e then s ||| 2 ^ e.on ||| acc.getD e.on 0 else s) s).testBit i=true →
  s.testBit i=true∨∃ e∈l,Region.binds .any e=true∧(e.on=i∨(acc.getD e.on 0).testBit i=true):=by
 intro l
 induction l with
 | nil=>intro s h;exact .inl h
 | cons e l ih=>
  intro s h
  simp only [List.foldl_cons] at h
  rcases ih _ h with h1 | ⟨e',he',h1⟩
  ·split at h1
   ·rename_i hb
    simp only [Nat.testBit_or,uh,Nat.testBit_two_pow,decide_eq_true_eq] at h1
    rcases h1 with (h1 | h1) | h1
    ·exact .inl h1
    ·exact .inr ⟨e,uz,hb,.inl h1⟩
    ·exact .inr ⟨e,uz,hb,.inr h1⟩
   ·exact .inl h1
  ·exact .inr ⟨e',uH _ he',h1⟩
theorem NK:∀ (l:List Oper) (acc:Array Nat),∃ R:Array Nat,R=l.foldl (fun acc o=>acc.push (o.after.foldl (fun s e=>if Region.binds .any e then s ||| 2 ^ e.on ||| acc.getD e.on 0 else s) 0)) acc ∧
  (∀ j,j < acc.size→R.getD j 0=acc.getD j 0) ∧
  ∀ (j:Nat) (o:Oper) (i:Nat),l[j]?=some o→(R.getD (acc.size+j) 0).testBit i=true→∃ e∈o.after,Region.binds .any e=true∧(e.on=i∨(R.getD e.on 0).testBit i=true):=by
 intro l
 induction l with
 | nil=>intro acc;exact ⟨acc,rfl,fun _ _=>rfl,fun j o i hj=>by simp at hj⟩
 | cons o l ih=>
  intro acc
  obtain ⟨R,h1,h2,h3⟩:=ih (acc.push (o.after.foldl (fun s e=>if Region.binds .any e then s ||| 2 ^ e.on ||| acc.getD e.on 0 else s) 0))
  refine ⟨R,h1,fun j hj => ?_,fun j o' i hj ht => ?_⟩
  ·rw [h2 j (by simp;omega)]
   have hne:j≠acc.size:=by omega
   simp [uI,hne]
  ·cases j with
   | zero=>
    simp at hj
    subst hj
    simp only [uw] at ht
    have hval:R.getD acc.size 0=o.after.foldl (fun s e=>if Region.binds .any e then s ||| 2 ^ e.on ||| acc.getD e.on 0 else s) 0:=by
     rw [h2 acc.size (by simp)];simp
    rw [hval,←uM] at ht
    rcases NJ acc i _ 0 ht with h4 | ⟨e,he,hb,h4⟩
    ·simp at h4
    ·refine ⟨e,by simpa using he,hb,?_⟩
     rcases h4 with h4 | h4
     ·exact .inl h4
     ·refine .inr ?_
      rcases uv e.on acc.size with hlt | hge
      ·rw [h2 e.on (by simp;omega)]
       have hne:e.on≠acc.size:=by omega
       simpa [uI,hne] using h4
      ·simp [um hge] at h4
   | succ j=>
    refine h3 j o' i (by simpa using hj) ?_
    rw [←ht]
    congr 2
    simp;omega
theorem NL {ops:Array Oper} {i j:Nat} {o:Oper} (hj:ops[j]?=some o) (hb:ed (Region.before ops).toList i j=true) :
  ∃ e∈o.after,Region.binds .any e=true∧(e.on=i∨ed (Region.before ops).toList i e.on=true):=by
 obtain ⟨R,h1,_,h3⟩:=NK ops.toList #[]
 have hR:R=Region.before ops:=by rw [h1];unfold Region.before;rw [←uM]
 have rq:∀ k,(Region.before ops).toList.getD k 0=(Region.before ops).getD k 0:=fun k=>by simp [List.getD,uo]
 unfold ed at hb ⊢
 rw [rq] at hb
 obtain ⟨e,he,nS,h4⟩:=h3 j o i (by simpa using hj) (by rw [hR];simpa using hb)
 refine ⟨e,he,nS,?_⟩
 rcases h4 with h4 | h4
 ·exact .inl h4
 ·rw [hR] at h4;rw [rq];exact .inr h4
theorem Zv {ops:Array Oper} {ord:List Nat} (hd:vK ops ord=true) {i:Nat} {o:Oper} (hi:ops[i]?=some o) {e:Edge} (he:e∈o.after) (hb:Region.binds .any e=true):e.on < i:=by
 unfold vK at hd
 simp only [uj] at hd
 have ru:i < ops.size:=(ub.1 hi).1
 have h1:=ue.1 hd.1 i (by simp [ru])
 simp only [hi] at h1
 have h2:=Array.all_eq_true_iff_forall_mem.1 h1 e he
 simpa [hb] using h2
theorem J4 {ops:Array Oper} {ord:List Nat} (hd:vK ops ord=true) {i j:Nat} {oi oj:Oper} {d:Nat} (hi:ops[i]?=some oi) (hj:ops[j]?=some oj) (ff:oi.dst=some d) (hne:i≠j) :
  oj.dst≠some d∧(d∈oj.looksAt ops→if i < j then ed ord i j=true else ed ord j i=true):=by
 unfold vK at hd
 simp only [uj] at hd
 have ru:i < ops.size:=(ub.1 hi).1
 have hjl:j < ops.size:=(ub.1 hj).1
 have h1:=ue.1 hd.2 i (by simp [ru])
 simp only [hi,ff] at h1
 have h2:=ue.1 h1 j (by simp [hjl])
 simp only [hj,uh,beq_iff_eq,hne,false_or,uj,bne_iff_ne,ne_eq,uN] at h2
 refine ⟨h2.1,fun hm => ?_⟩
 rcases h2.2 with h3 | h3
 ·have:(oj.looksAt ops).contains d=true:=by simpa using hm
  rw [this] at h3;cases h3
 ·split
  ·rename_i hlt;simpa [hlt] using h3
  ·rename_i hlt;simpa [hlt] using h3
def VP (ops:Array Oper) (listed:Array Bool):Prop:=∀ (j:Nat) (o:Oper),ops[j]?=some o→listed.getD j false=true→∀ e∈o.after,Region.binds .any e=true→listed.getD e.on false=true
theorem VQ {ops:Array Oper} {listed:Array Bool} (hd:vK ops (Region.before ops).toList=true) (hc:VP ops listed):∀ (j i:Nat) (o:Oper),ops[j]?=some o →
  (∀ e∈o.after,Region.binds .any e=true→listed.getD e.on false=true)→ed (Region.before ops).toList i j=true→listed.getD i false=true:=by
 intro j
 induction j using uF with
 | _ j ih=>
  intro i o hj ha hb
  obtain ⟨e,he,nS,h1⟩:=NL hj hb
  have hl:=ha e he nS
  rcases h1 with rfl | h1
  ·exact hl
  ·have hlt:=Zv hd hj he nS
   have hjl:j < ops.size:=(ub.1 hj).1
   have FN:ops[e.on]?=some (ops[e.on]'(by omega)):=by simp
   exact ih e.on hlt i _ FN (fun e' he' hb'=>hc e.on _ FN hl e' he' hb') h1
end
end
section
section
variable {C:Ctx} {nt:Fr} {ro:Option Nat}
def NS (n0:Nat) (recs:List Rec) (L:Nat→Bool):Nat→Prop:=fun i=>i < n0∨(∃ k,L k=true∧i=n0+k)∨∃ k rc,L k=true∧recs[k]?=some rc∧i∈rc.ex
def YX (n0:Nat) (recs:List Rec):Prop:=(∀ (k:Nat) (rc:Rec) (i:Nat),recs[k]?=some rc→i∈rc.ex→n0+recs.length≤i)∧∀ (k l:Nat) (rk rl:Rec) (i:Nat),recs[k]?=some rk→recs[l]?=some rl→i∈rk.ex→i∈rl.ex→k=l
def AF (C:Ctx) (nt:Fr) (recs:List Rec) (g0:Gh) (st:St) (w0:World) (L:Nat→Bool) (a:Act) (w:World):Prop:=
 ∃ g,RH C g (qk recs L 0 (za st.heap)) (NS st.next recs L) w∧bV g0 (za st.heap) (· < st.next) w0 g (qk recs L 0 (za st.heap)) (NS st.next recs L) w ∧
  a.tmps.size=nt.n∧Marks nt.B g w a.defers∧∀ t x,qU recs L 0 (za st.env) t=some x→RV C g (qk recs L 0 (za st.heap)) (NS st.next recs L) w x (a.tmps.getD t undef)
theorem C4 (n0:Nat) {recs:List Rec} {rc:Rec} (L:Nat→Bool) (i:Nat) (hi:recs[i]?=some rc):NS n0 recs (yj L i)=xc (qj (NS n0 recs L) (n0+i)) rc.ex:=by
 funext x
 simp only [NS,qj,xc,eq_iff_iff]
 constructor
 ·rintro (h | ⟨k,h1,rfl⟩ | ⟨k,r,h1,h2,h3⟩)
  ·exact .inl (.inl (.inl h))
  ·by_cases e:k=i
   ·subst e;exact .inl (.inr rfl)
   ·rw [xT _ e] at h1;exact .inl (.inl (.inr (.inl ⟨k,h1,rfl⟩)))
  ·by_cases e:k=i
   ·subst e;rw [hi] at h2;cases h2;exact .inr h3
   ·rw [xT _ e] at h1;exact .inl (.inl (.inr (.inr ⟨k,r,h1,h2,h3⟩)))
 ·rintro (((h | ⟨k,h1,rfl⟩ | ⟨k,r,h1,h2,h3⟩) | rfl) | h)
  ·exact .inl h
  ·by_cases e:k=i
   ·subst e;exact .inr (.inl ⟨k,Zb _ _,rfl⟩)
   ·exact .inr (.inl ⟨k,by rw [xT _ e];exact h1,rfl⟩)
  ·by_cases e:k=i
   ·subst e;exact .inr (.inr ⟨k,r,Zb _ _,h2,h3⟩)
   ·exact .inr (.inr ⟨k,r,by rw [xT _ e];exact h1,h2,h3⟩)
  ·exact .inr (.inl ⟨i,Zb _ _,rfl⟩)
  ·exact .inr (.inr ⟨i,rc,Zb _ _,hi,h⟩)
theorem NM {n0:Nat} {recs:List Rec} (hex:YX n0 recs) {L:Nat→Bool} {i:Nat} (h:L i=false) (hi:i < recs.length):¬ NS n0 recs L (n0+i):=by
 rintro (h1 | ⟨k,h1,h2⟩ | ⟨k,r,h1,h2,h3⟩)
 ·omega
 ·have:k=i:=by omega
  subst this
  rw [h] at h1;cases h1
 ·have:=hex.1 k r _ h2 h3;omega
theorem NN {n0:Nat} {recs:List Rec} (hex:YX n0 recs) {L:Nat→Bool} (hL:∀ k,L k=true→k < recs.length) {i:Nat} {rc:Rec} (h:L i=false) (hi:recs[i]?=some rc):∀ x∈rc.ex,¬ NS n0 recs L x:=by
 intro x hx
 have h0:=hex.1 i rc x hi hx
 rintro (h1 | ⟨k,h1,h2⟩ | ⟨k,r,h1,h2,h3⟩)
 ·omega
 ·have:=hL k h1;omega
 ·have:=hex.2 k i r rc x h2 hi h3 hx
  subst this
  rw [h] at h1;cases h1
theorem NO {ops:Array Oper} {items:List aM} {recs:List Rec} {st aX:St} {g0:Gh} {w0:World} (hm:aI (xv C nt.n ops) ops.toList=some items) (hrun:Qq C items st recs aX)
  (hd:vK ops (Region.before ops).toList=true) (hmem:Q8 (Region.before ops).toList recs=true) (hex:YX st.next recs) {listed:Array Bool} (hsz:listed.size=ops.size) (dZ:VP ops listed)
  {i:Nat} (hi:i∈Region.ready .any ops listed) {a:Act} {w:World} (hI:AF C nt recs g0 st w0 (fun k=>listed.getD k false) a w) {Q:Exit→Act→World→Prop} {K:Act→World→Prop}
  (hK:∀ a' w',AF C nt recs g0 st w0 (fun k=>(listed.setIfInBounds i true).getD k false) a' w'→K a' w'):wpOpIn (oZ ro) 0 C.P ops Q i K a w:=by
 obtain ⟨hun,o,ho,mM⟩:=mem_ready.1 hi
 have hilt:i < ops.size:=(ub.1 ho).1
 have pI:listed.getD i false=false:=by
  have hlt:i < listed.size:=by omega
  simp [hlt] at hun ⊢
  exact hun
 obtain ⟨hlen,cZ⟩:=qi hm
 obtain ⟨it,hit,hcomp⟩:=cZ i o (by simpa using ho)
 have hrl:=Ja hrun
 have hlo:items.length=ops.size:=by rw [hlen];simp
 have Al:i < recs.length:=by omega
 have hrc:recs[i]?=some recs[i]:=by simp
 generalize NP:recs[i]=rc at hrc
 obtain ⟨hop,ff,nH,hgd⟩:=wR hcomp
 obtain ⟨fA,iq,ry,AG,rz,hnext⟩:=YW items st recs aX 0 hrun i it rc hit hrc
 simp only [uE] at AG rz
 have og:∀ (j:Nat) (rj:Rec),recs[j]?=some rj→∃ oj,ops[j]?=some oj∧rj.dst=oj.dst:=fun j rj hj=>by
  have hjl:j < recs.length:=(ua.1 hj).1
  have nA:ops[j]?=some (ops[j]'(by omega)):=by simp
  obtain ⟨NQ,C5,NT⟩:=cZ j (ops[j]'(by omega)) (by rw [Array.getElem?_toList];exact nA)
  obtain ⟨_,_,h3,_,_⟩:=YW items st recs aX 0 hrun j NQ rj C5 hj
  exact ⟨_,nA,by rw [h3];exact (wR NT).2.1⟩
 have lQ:∀ j,ed (Region.before ops).toList j i=true→listed.getD j false=true:=fun j hb=>VQ hd dZ i j o ho mM hb
 have fU:∀ j,i < j→j < ops.size→ed (Region.before ops).toList i j=true→listed.getD j false=false:=fun j hlt hj hb=>by
  cases hc:listed.getD j false with
  | false=>rfl
  | true=>
   have nA:ops[j]?=some (ops[j]'(by omega)):=by simp
   have:=VQ hd dZ j i _ nA (fun e he nS=>dZ j _ nA hc e he nS) hb
   rw [pI] at this;cases this
 have nI:∀ t,t∈o.looksAt ops→qU recs (fun k=>listed.getD k false) 0 (za st.env) t=za fA.env t:=fun t ht=>by
  rw [AG]
  refine wJ _ _ _ _ _ _ (fun j rj hj FO => ?_) rfl
  simp only [uE]
  obtain ⟨oj,nA,sC⟩:=og j rj hj
  rw [sC] at FO
  have hjl:j < ops.size:=(ub.1 nA).1
  by_cases hji:j=i
  ·subst hji;rw [pI];simp
  ·have h2:=(J4 hd nA ho FO hji).2 ht
   split at h2
   ·rename_i hlt;rw [lQ j h2];simp [hlt]
   ·rename_i hge;rw [fU j (by omega) hjl h2];simp;omega
 have iI:∀ x,x∈rc.rd→qk recs (fun k=>listed.getD k false) 0 (za st.heap) x=za fA.heap x:=fun x hx=>by
  rw [rz]
  refine yH _ _ _ _ _ _ (fun j rj hj bA => ?_) rfl
  simp only [uE]
  have hjl:j < ops.size:=by have:=(ua.1 hj).1;omega
  by_cases hji:j=i
  ·subst hji;rw [pI];simp
  ·rcases uv j i with hlt | hge
   ·have hc:jU rj rc=true:=by
     simp only [jU,uh,uC]
     exact .inl ⟨x,bA,.inl (by simpa using hx)⟩
    rw [lQ j (Q9 hmem hj hrc hlt hc)];simp [hlt]
   ·have hlt:i < j:=by omega
    have hc:jU rc rj=true:=by
     simp only [jU,uh,uC]
     exact .inr ⟨x,bA,by simpa using hx⟩
    rw [fU j hlt hjl (Q9 hmem hrc hj hlt hc)];simp;omega
 obtain ⟨g,R,E,hts,hdf,fE⟩:=hI
 have iQ:(fun k=>(listed.setIfInBounds i true).getD k false)=yj (fun k=>listed.getD k false) i:=by
  funext k
  simp only [yj]
  by_cases e:k=i
  ·subst e;rw [if_pos rfl];have:k < listed.size:=by omega
   simp [this]
  ·rw [if_neg e];exact getD_set_ne false (fun h=>e h.symm)
 have mN:qk recs (yj (fun k=>listed.getD k false) i) 0 (za st.heap)=bA rc.aN (qk recs (fun k=>listed.getD k false) 0 (za st.heap)):=by
  funext x
  have:=KS recs (fun k=>listed.getD k false) 0 i rc (za st.heap) x hrc (fun j rj hj hlt hL y hy hy'=>by
   simp only [uE] at hL
   have hjl:j < ops.size:=by have:=(ua.1 hj).1;omega
   have hc:jU rc rj=true:=by
    simp only [jU,uh,uC]
    exact .inl ⟨y,hy,.inr (by simpa using hy')⟩
   rw [fU j hlt hjl (Q9 hmem hrc hj hlt hc)] at hL
   cases hL) (by simpa using pI)
  simpa using this
 have sD:∀ t,qU recs (yj (fun k=>listed.getD k false) i) 0 (za st.env) t=vN (qU recs (fun k=>listed.getD k false) 0 (za st.env)) rc.dst rc.r t:=fun t=>by
  have:=KR recs (fun k=>listed.getD k false) 0 i rc (za st.env) t hrc (fun j rj d hj hne hdd=>by
   obtain ⟨oj,nA,sC⟩:=og j rj hj
   rw [sC]
   refine (J4 hd ho nA ?_ (fun e=>hne e.symm)).1
   rw [←hdd,ry,ff]) (by simpa using pI)
  simpa using this
 have finish:∀ (v:Value) (w':World) (g':Gh),bV g (qk recs (fun k=>listed.getD k false) 0 (za st.heap)) (NS st.next recs fun k=>listed.getD k false) w g' (bA rc.aN (qk recs (fun k=>listed.getD k false) 0 (za st.heap))) (xc (qj (NS st.next recs fun k=>listed.getD k false) (st.next+i)) rc.ex) w' →
   RH C g' (bA rc.aN (qk recs (fun k=>listed.getD k false) 0 (za st.heap))) (xc (qj (NS st.next recs fun k=>listed.getD k false) (st.next+i)) rc.ex) w' →
   RV C g' (bA rc.aN (qk recs (fun k=>listed.getD k false) 0 (za st.heap))) (xc (qj (NS st.next recs fun k=>listed.getD k false) (st.next+i)) rc.ex) w' rc.r v→K (a.put o.dst v) w':=fun v w' g' E' R' hv=>by
  refine hK _ _ ?_
  rw [iQ]
  refine ⟨g',?_,?_,?_,?_,fun t x hx => ?_⟩
  ·rw [mN,C4 _ _ _ hrc];exact R'
  ·rw [mN,C4 _ _ _ hrc];exact E.trans E'
  ·cases o.dst<;>simp [Act.put,hts]
  ·have hm':=hdf.eN E'
   cases o.dst<;>exact hm'
  ·rw [mN,C4 _ _ _ hrc]
   rw [sD,ry,ff] at hx
   cases C6:o.dst with
   | none=>
    rw [C6] at hx
    simp only [vN] at hx
    exact (fE t x hx).mono E'
   | some d=>
    rw [C6] at hx
    simp only [vN] at hx
    rw [FI a d v t (by rw [hts];exact nH d C6)]
    split at hx
    ·rename_i e;rw [if_pos e];cases hx;exact hv
    ·rename_i e;rw [if_neg e];exact (fE t x hx).mono E'
 have hfresh:¬ NS st.next recs (fun k=>listed.getD k false) (st.next+i):=NM hex pI Al
 have NU:∀ k,listed.getD k false=true→k < recs.length:=fun k hk=>by
  rcases uv k listed.size with h | h
  ·omega
  ·rw [uo,um h] at hk;cases hk
 have pJ:∀ x∈rc.ex,¬ NS st.next recs (fun k=>listed.getD k false) x:=NN hex NU pI hrc
 have sF:rc.ex=[]→xc (qj (NS st.next recs fun k=>listed.getD k false) (st.next+i)) rc.ex=qj (NS st.next recs fun k=>listed.getD k false) (st.next+i):=fun h=>by rw [h,J3]
 have ol:∀ t,t∈o.looksAt ops→RV C g (qk recs (fun k=>listed.getD k false) 0 (za st.heap)) (NS st.next recs fun k=>listed.getD k false) w ((za fA.env t).getD .top) (a.tmps.getD t undef):=fun t ht=>by
  rw [←nI t ht]
  cases hs:qU recs (fun k=>listed.getD k false) 0 (za st.env) t with
  | none=>exact .top _
  | some x=>exact fE t x hs
 have rA:∀ x∈o.op.operands,RV C g (qk recs (fun k=>listed.getD k false) 0 (za st.heap)) (NS st.next recs fun k=>listed.getD k false) w (zd fA.env (C.bl x)) (a.eval x):=fun x hx=>by
  cases x with
  | tmp t=>
   refine ol t ?_
   simp only [Oper.looksAt,uQ,List.mem_filterMap]
   exact .inl ⟨.tmp t,by simpa using hx,rfl⟩
  | const v=>exact vg v
  | global gg=>exact .top _
  | func f=>
   simp only [Ctx.bl]
   split
   ·rename_i k hk
    have:=RV.func (C:=C) (g:=g) (h:=qk recs (fun k=>listed.getD k false) 0 (za st.heap)) (N:=NS st.next recs fun k=>listed.getD k false) (w:=w) k [] [] [] [] rfl rfl (fun j c v hj=>by simp at hj) (fun j c v hj=>by simp at hj)
    rw [kM hk] at this
    exact this
   ·exact .top _
 have lR:∀ b,z8 fA.env it.guard=some b→Region.wanted o (yielded ops a.tmps)=b:=fun b hg=>by
  rcases hgd with ⟨h1,h2⟩ | ⟨j,want,t,h1,h2,h3,h4⟩
  ·rw [h2] at hg
   simp only [z8,Option.some.injEq] at hg
   subst hg
   simp [Region.wanted,h1]
  ·rw [h4] at hg
   simp only [z8] at hg
   simp only [Region.wanted,h1,yielded,h2,bf]
   have hlt:t < a.tmps.size:=by rw [hts];exact h3
   have hv:=ol t (by simp only [Oper.looksAt,uQ];exact .inr (by simp [h1,h2]))
   have AH:a.tmps[t]?=some (a.tmps.getD t undef):=by simp [hlt]
   rw [AH]
   split at hg
   ·rename_i b' e
    rw [e] at hv
    cases hg
    rw [vl hv]
    cases b'<;>cases want<;>rfl
   ·rename_i e
    rw [e] at hv
    cases hg
    generalize a.tmps.getD t undef=u at hv
    cases hv
    cases want<;>rfl
   ·cases hg
 unfold wpOpIn
 simp only [ho]
 unfold ny at iq
 split at iq
 ·rename_i hg
  rw [lR false hg]
  simp only [ul,if_false]
  obtain ⟨h1,h2,h3⟩:=iq
  refine ⟨fun f _=>Qx _ f,?_⟩
  have hE:=bV.add g (qk recs (fun k=>listed.getD k false) 0 (za st.heap)) (NS st.next recs fun k=>listed.getD k false) w (st.next+i)
  refine finish undef w g ?_ ?_ ?_
  ·rw [h2,sF h3];exact hE
  ·rw [h2,sF h3];exact R.add _
  ·rw [h1];exact .undef
 ·rename_i hg
  rw [lR true hg]
  simp only [if_true]
  refine ⟨fun f _=>Qx _ f,?_⟩
  split at iq
  ·rename_i f args gh
   rw [gh] at hop
   obtain ⟨cH,S,rfl⟩:=WH hop
   obtain ⟨cc,n9⟩:=S.fR
   split at iq
   ·rename_i f' first bt tL
    obtain ⟨fS,mK⟩:=iq
    obtain ⟨vf,vc,oa,oc⟩:=VL rA S tL
    have AI:=oc w fS
    rw [Oper.semAt_eq _ _ _ (fun c hc=>by rw [n9] at hc;cases hc),AI]
    simp only [Oper.uponIn]
    refine ⟨fun h=>(by rw [J0] at h;cases h),KN ?_⟩
    have mL:vf.toArray++cH.map a.eval++vc.toArray=(vf++cH.toList.map a.eval++vc).toArray:=by apply uK;simp
    rw [mL]
    refine (mK g _ _ w _ iI pJ R oa).mono ?_
    rintro e w' ⟨v,g',rfl,E',R',hv⟩
    have hE:=bV.add g' (bA rc.aN (qk recs (fun k=>listed.getD k false) 0 (za st.heap))) (xc (NS st.next recs fun k=>listed.getD k false) rc.ex) w' (st.next+i)
    have NV:qj (xc (NS st.next recs fun k=>listed.getD k false) rc.ex) (st.next+i)=xc (qj (NS st.next recs fun k=>listed.getD k false) (st.next+i)) rc.ex:=by
     funext x;simp only [qj,xc,eq_iff_iff]
     constructor
     ·rintro ((h | h) | h)
      ·exact .inl (.inl h)
      ·exact .inr h
      ·exact .inl (.inr h)
     ·rintro ((h | h) | h)
      ·exact .inl (.inl h)
      ·exact .inr h
      ·exact .inl (.inr h)
    have hR:=R'.add (st.next+i)
    have hV:=hv.mono hE
    rw [NV] at hE hR hV
    exact finish v w' g' (E'.trans hE) hR hV
   ·exact iq.elim
  ·rename_i sy
   obtain ⟨C7,hrd,C8⟩:=iq
   have C9:ai it.op (zd fA.env) (qk recs (fun k=>listed.getD k false) 0 (za st.heap)) (st.next+i)=some (rc.r,rc.aN):=by
    rw [NI (h:=za fA.heap) (fun x hx=>iI x (by rw [hrd];exact hx)),←hnext]
    exact C7
   obtain ⟨v,w',gR,g',E',R',hv⟩:=FG hop g _ _ w (st.next+i) (zd fA.env) a.eval rc.r rc.aN R hfresh rA C9
   rw [Oper.semAt_eq _ _ _ (fun c hc=>by rw [hc] at hop;simp [yU] at hop)]
   rw [←sF C8] at E' R' hv
   rcases gR with gR | ⟨gR,rfl⟩
   ·rw [gR];exact finish v w' g' E' R' hv
   ·rw [gR];exact finish undef w' g' E' R' hv
 ·exact iq.elim
theorem ZV (n k:Nat):(un n false).getD k false=false:=by
 rw [uo,Array.getElem?_replicate]
 split<;>rfl
theorem NW {listed:Array Bool} {i:Nat} (h:i < listed.size) (hf:listed.getD i false=false):((listed.setIfInBounds i true).toList.countP (· == false))+1=listed.toList.countP (· == false):=by
 have hl:i < listed.toList.length:=by simpa using h
 have hv:listed.toList[i]=false:=by simpa [h] using hf
 rw [Array.toList_setIfInBounds,List.countP_set hl]
 have hp:0 < listed.toList.countP (· == false):=uJ.2 ⟨listed.toList[i],uq hl,by simp [hv]⟩
 simp only [hv]
 have e1:((false == false)=true):=rfl
 have e2:¬ ((true == false)=true):=by simp
 rw [if_pos e1,if_neg e2]
 omega
theorem NX {ops:Array Oper} {items:List aM} {recs:List Rec} {st aX:St} {g0:Gh} {w0:World} (hm:aI (xv C nt.n ops) ops.toList=some items) (hrun:Qq C items st recs aX)
  (hd:vK ops (Region.before ops).toList=true) (hmem:Q8 (Region.before ops).toList recs=true) (hex:YX st.next recs) {Q:Exit→Act→World→Prop}
  (hQ:∀ (L:Nat→Bool) a w,(∀ k,L k=decide (k < ops.size))→AF C nt recs g0 st w0 L a w→Q .normal a w) :
  ∀ (fuel:Nat) (listed:Array Bool) (a:Act) (w:World),listed.size=ops.size→VP ops listed→listed.toList.countP (· == false)≤fuel→AF C nt recs g0 st w0 (fun k=>listed.getD k false) a w →
   wpAnyIn (oZ ro) 0 C.P .any ops Q fuel listed a w:=by
 have done:∀ (listed:Array Bool) (a:Act) (w:World),listed.size=ops.size→(∀ k,k < ops.size→listed.getD k false=true)→AF C nt recs g0 st w0 (fun k=>listed.getD k false) a w→Q .normal a w:=fun listed a w hsz hall hI=>
  hQ _ a w (fun k=>by
   by_cases hk:k < ops.size
   ·rw [hall k hk];simp [hk]
   ·have:¬ k < listed.size:=by omega
    simp [hk,this]) hI
 have AJ:∀ (listed:Array Bool),listed.size=ops.size→VP ops listed→Region.ready .any ops listed=[]→∀ k,k < ops.size→listed.getD k false=true:=fun listed hsz dZ hr k=>by
  induction k using uF with
  | _ k ih=>
   intro hk
   cases hc:listed.getD k false with
   | true=>rfl
   | false=>
    have hok:ops[k]?=some (ops[k]'(by omega)):=by simp
    have:k∈Region.ready .any ops listed:=by
     rw [mem_ready]
     refine ⟨?_,_,hok,fun e he hb=>ih e.on (Zv hd hok he hb) (by have:=Zv hd hok he hb;omega)⟩
     have hlt:k < listed.size:=by omega
     simp [hlt] at hc ⊢
     exact hc
    rw [hr] at this
    cases this
 intro fuel
 induction fuel with
 | zero=>
  intro listed a w hsz dZ iX hI
  have hall:∀ k,k < ops.size→listed.getD k false=true:=fun k hk=>by
   cases hc:listed.getD k false with
   | true=>rfl
   | false=>
    have hlt:k < listed.toList.length:=by simp;omega
    have hv:listed.toList[k]=false:=by
     have hlt':k < listed.size:=by omega
     simpa [hlt'] using hc
    have:0 < listed.toList.countP (· == false):=uJ.2 ⟨listed.toList[k],uq hlt,by simp [hv]⟩
    omega
  refine ⟨?_,done listed a w hsz hall hI⟩
  rw [List.eq_nil_iff_forall_not_mem]
  intro k hk
  obtain ⟨hun,o,ho,_⟩:=mem_ready.1 hk
  have fF:k < ops.size:=(ub.1 ho).1
  have:=hall k fF
  have hlt:k < listed.size:=by omega
  simp [hlt] at hun this
  rw [hun] at this
  cases this
 | succ fuel ih=>
  intro listed a w hsz dZ iX hI
  refine ⟨fun hr=>done listed a w hsz (AJ listed hsz dZ hr) hI,fun i hi => ?_⟩
  obtain ⟨hun,o,ho,mM⟩:=mem_ready.1 hi
  have ru:i < ops.size:=(ub.1 ho).1
  have pI:listed.getD i false=false:=by
   have hlt:i < listed.size:=by omega
   simp [hlt] at hun ⊢
   exact hun
  refine NO hm hrun hd hmem hex hsz dZ hi hI fun a' w' NY=>ih _ a' w' (by simpa using hsz) ?_ ?_ NY
  ·intro j oj nA hl e he hb
   by_cases hji:j=i
   ·subst hji
    rw [ho] at nA
    cases nA
    exact getD_set_true (mM e he hb)
   ·rw [getD_set_ne false (fun h=>hji h.symm)] at hl
    exact getD_set_true (dZ j oj nA hl e he hb)
  ·have:=NW (listed:=listed) (by omega) pI
   omega
theorem W2 {C:bz} {ord:List Nat} {items:List aM} {ks:Option (List Nat)} {K:Exit→St→Prop} {st aX:St} {recs:List Rec} (hrun:Qq C items st recs aX) (hmem:Q8 ord recs=true) (hex:YX st.next recs) (M:Nat) (hM:aX.next≤M) (NZ:∀ rc∈recs,∀ i∈rc.ex,i < M) (hK:K .normal (St.keep ⟨aX.env,aX.heap,M⟩ ks)) :
  cB C nt (.region true ord items ks) K st:=by
 intro code hc g a w R hI
 obtain ⟨id,ops,rfl,hm,AK⟩:=WI hc
 obtain ⟨Da,rfl,hd⟩:=AK rfl
 obtain ⟨hlen,_⟩:=qi hm
 have hlo:items.length=ops.size:=by rw [hlen];simp
 refine wpIn_region_any Da (NX (g0:=g) (w0:=w) hm hrun hd hmem hex ?_ ops.size _ a w.drew (by simp) ?_ (by simp [List.countP_replicate]) ?_)
 ·intro L a' w' hL hI
  obtain ⟨g',R',E',hts,hdf,fE⟩:=hI
  obtain ⟨h1,h2,h3⟩:=W0 items st recs aX 0 L hrun (fun j hj=>by rw [hL];simp;omega)
  have hrl:=Ja hrun
  have hN:∀ x,NS st.next recs L x→x < M:=by
   rintro x (h | ⟨k,hk,rfl⟩ | ⟨k,rc,hk,h4,h5⟩)
   ·omega
   ·rw [hL] at hk;simp at hk;omega
   ·exact NZ rc (uc h4) x h5
  rw [←h2] at R' E' fE
  rw [←h1] at fE
  have EN:bV g' (za aX.heap) (NS st.next recs L) w' g' (za aX.heap) (· < M) w':={bV.refl g' (za aX.heap) (NS st.next recs L) w' with next:=hN}
  have R2:RH C g' (za aX.heap) (· < M) w':=⟨R'.inj,fun i b hb=>⟨(R'.lt i b hb).1,hN i (R'.lt i b hb).2⟩,fun i o ho=>hN i (R'.key i o ho),fun i b o hb ho=>(R'.obj i b o hb ho).keep EN rfl rfl,R'.cQ,R'.dX,R'.fix⟩
  have Rel':Rel C nt g' ⟨aX.env,aX.heap,M⟩ a' w':=⟨⟨hts,hdf,fun t x hx=>(fE t x hx).mono EN⟩,R2⟩
  refine ⟨_,g',hK,Rel'.keep ks,?_⟩
  have:=E'.trans EN
  cases ks<;>exact this
 ·intro j o ho hl
  rw [ZV] at hl;cases hl
 ·have hN:NS st.next recs (fun k=>(un ops.size false).getD k false)=(· < st.next):=by
   funext x
   simp only [NS,eq_iff_iff]
   constructor
   ·rintro (h | ⟨k,hk,rfl⟩ | ⟨k,rc,hk,_,_⟩)
    ·exact h
    ·rw [ZV] at hk;cases hk
    ·rw [ZV] at hk;cases hk
   ·exact .inl
  have hL:(fun k=>(un ops.size false).getD k false)=fun _=>false:=by funext k;exact ZV _ _
  have hs:∀ (l:List Rec) (k:Nat) (f:Nat→Option AV),qU l (fun _=>false) k f=f:=by
   intro l
   induction l with
   | nil=>intro k f;rfl
   | cons r l ih=>intro k f;simp [qU,ih]
  have hh:∀ (l:List Rec) (k:Nat) (f:Nat→Option aD),qk l (fun _=>false) k f=f:=by
   intro l
   induction l with
   | nil=>intro k f;rfl
   | cons r l ih=>intro k f;simp [qk,ih]
  have hE:=bV.drew g (za st.heap) (· < st.next) w
  rw [hL] at hN
  rw [hL]
  refine ⟨g,?_,?_,R.env.size,R.env.defers,fun t x hx => ?_⟩
  ·rw [hh,hN];exact R.heap.drew
  ·rw [hh,hN];exact hE
  ·rw [hs] at hx
   rw [hh,hN]
   exact (R.env.slot t x hx).mono hE
end
end
end Go.Proofs.YtlpmnmbebkdocaaGreatDoor
