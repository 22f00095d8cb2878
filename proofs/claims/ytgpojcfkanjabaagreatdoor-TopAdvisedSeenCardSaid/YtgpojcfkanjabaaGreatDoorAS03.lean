/-
  The abstract machine: every operation that it reads is sound.
  The abstract machine: code, how it is read off the model's code, and what it asks of a state.
  The abstract machine: what code asks of an abstract state, and the rules.
  The abstract machine: the rules for code.
  The abstract machine: calls; entering a function.
  The abstract machine: entering a function.
  The abstract machine: forgetting slots, objects and names.
  The abstract machine: regions that draw their order. The text's order serves every order that the edges allow.
  The abstract machine: regions that draw their order, the theorem.
-/
import Derived.Test.YtgpojcfkanjabaaGreatDoorAS02
import Derived.RangeFuncSeq
import Derived.RangeFuncCalls
import Derived.OrdersIn
import Derived.TacticsIn
import Derived.Deep.LoopGhost
import Derived.Scope
open List renaming getElem?_eq_some_iff → ua, mem_of_getElem? → uc, all_eq_true → ue, getElem?_eq_getElem → uh, getElem?_map → un, mem_cons_self → uv, getElem?_take_of_lt → uw, mem_cons → ux, getElem_mem → uy, range → uz, length_eq_one_iff → uB, getElem?_append → uD, mem_cons_of_mem → uE, getElem?_drop → uG, filter_cons → uJ, map_cons → uN
open Option renaming map_eq_some_iff → ub
open Bool renaming and_eq_true → ui, false_eq_true → uk, or_eq_true → uu, not_eq_true' → uI
open Nat renaming lt_of_lt_of_le → ug, le_refl → uj, eq_zero_or_pos → ul, pos_of_ne_zero → um, add_zero → uq, le_max_right → ur, le_max_left → ut, lt_or_ge → uA, strongRecOn → uK, zero_lt_one → uL, sub_zero → uO, le_trans → uP, succ_mul → uQ, add_mul → uR
open Array renaming getElem?_eq_some_iff → ud, getElem?_eq_none → uo, replicate → uC, getElem?_push → uF, foldl_toList → uH, ext' → uM
namespace Go.Proofs.YtgpojcfkanjabaaGreatDoor
open Go.RowKit
set_option linter.unusedSimpArgs false
set_option linter.unusedVariables false
section
section
variable {C:Ctx}
theorem VA (o:Oper) (f:aZ) (args:List aZ):aP C o (.call f args):=by
 intro g h N w id ev val r aO R hid hv he
 simp [ai] at he
theorem Nu {o:Oper} {op:BinOp} {t t':TypeId} {x y:Operand} {ao:cO} (ho:o.op=.binOp op t x y t') (hc:XV C op t x y=some ao):aP C o ao:=by
 unfold XV at hc
 split at hc
 ·cases hc;exact Kx ho
 ·cases hc;exact Kx ho
 ·rename_i hu
  split at hc
  ·cases hc;exact Ky (neg:=false) ho hu rfl
  ·cases hc;exact Ky (neg:=true) ho hu rfl
  ·cases hc
 ·rename_i e hu
  split at hc
  ·cases hc;exact Wu (neg:=false) ho hu rfl
  ·cases hc;exact Wu (neg:=true) ho hu rfl
  ·cases hc
 ·rename_i kt et hu
  split at hc
  ·cases hc;exact Vz (neg:=false) ho hu rfl
  ·cases hc;exact Vz (neg:=true) ho hu rfl
  ·cases hc
 ·rename_i fs hu
  split at hc
  ·rename_i ks hks
   split at hc
   ·cases hc
   ·rename_i hg
    have hg':C.P.eqGuardType C.P.depth t=false:=by simpa using hg
    split at hc
    ·cases hc;exact KC (neg:=false) ho hu hks hg' rfl
    ·cases hc;exact KC (neg:=true) ho hu hks hg' rfl
    ·cases hc
  ·cases hc
 ·cases hc
theorem WP {o:Oper} {b:Builtin} {args:Array Operand} {ts:Array TypeId} {ao:cO} (ho:o.op=.call {callee:=.builtin b,args,argTypes:=ts}) (hc:yR C b args.toList ts.toList=some ao):aP C o ao:=by
 obtain ⟨args⟩:=args
 obtain ⟨ts⟩:=ts
 simp only at hc
 unfold yR at hc
 split at hc
 ·split at hc
  ·rename_i hu;cases hc;exact MD ho hu
  ·rename_i hu;cases hc;exact ME ho hu
  ·rename_i hu;cases hc;exact MF ho hu
  ·cases hc
 ·cases hc;exact Fy (mx:=true) ho
 ·cases hc;exact Fy (mx:=false) ho
 ·split at hc
  ·rename_i e e2 hu o5
   split at hc
   ·rename_i sz bG z h1 h2 h3
    split at hc
    ·rename_i bD
     cases hc
     exact Ng ho hu o5 (fun k=>by simp) h1 h2 h3 bD.1 bD.2.1 bD.2.2
    ·cases hc
   ·cases hc
  ·cases hc
 ·rename_i d x t r
  split at hc
  ·rename_i e hu
   split at hc
   ·rename_i sz h1;cases hc;exact Nn ho (by simp) hu h1
   ·cases hc
  ·cases hc
 ·rename_i m k t r
  split at hc
  ·rename_i kt et hu
   split at hc
   ·rename_i hk;cases hc;exact Nl (str:=true) ho (by simp) hu hk rfl
   ·cases hc
  ·cases hc
 ·cases hc
theorem FL {o:Oper} {ao:cO} (hc:kn C o.op=some ao):aP C o ao:=by
 unfold kn at hc
 split at hc
 ·rename_i x ho;cases hc;exact Kv (.inl ho)
 ·rename_i x ho;cases hc;exact Kv (.inr ho)
 ·rename_i c a b ho;cases hc;exact Mp ho
 ·rename_i t ho
  split at hc
  ·rename_i n e hu
   split at hc
   ·rename_i sz z h1 h2
    split at hc
    ·rename_i bD;cases hc;exact kS (e:=e) ho h2 bD.1 (xR h2)
    ·cases hc
   ·cases hc
  ·split at hc
   ·rename_i z h2;cases hc;exact Mq ho h2 (xR h2)
   ·cases hc
  ·cases hc
 ·rename_i t x ho
  split at hc
  ·cases hc;exact Mr ho
  ·cases hc
 ·rename_i t parts ho
  split at hc
  ·rename_i fs z hu hz
   split at hc
   ·rename_i ps hps
    split at hc
    ·rename_i hs;cases hc;exact ML ho hu hz (xR hz) hs hps
    ·cases hc
   ·cases hc
  ·rename_i n e z hu hz
   split at hc
   ·rename_i sz hs;cases hc;exact Vy ho hu hz hs (xR hz)
   ·cases hc
  ·cases hc
 ·rename_i t len parts ho
  split at hc
  ·rename_i e hu
   split at hc
   ·rename_i sz z h1 h2
    split at hc
    ·rename_i bD;cases hc;exact MP ho hu h1 h2 bD.1 bD.2.1 bD.2.2 (xR h2)
    ·cases hc
   ·cases hc
  ·cases hc
 ·rename_i t a ho
  split at hc
  ·rename_i ag n h1 h2;cases hc;exact Ms ho h1 h2
  ·cases hc
 ·rename_i t a v ho
  split at hc
  ·rename_i n h1;cases hc;exact Mt ho h1
  ·cases hc
 ·rename_i s x f ho
  split at hc
  ·rename_i fs hu
   split at hc
   ·rename_i fd hf
    split at hc
    ·rename_i n hn
     split at hc
     ·cases hc
     ·rename_i hn0;cases hc;exact Mv ho hu hf hn hn0
    ·cases hc
   ·cases hc
  ·cases hc
 ·rename_i s x f ho
  split at hc
  ·rename_i fs hu
   split at hc
   ·rename_i fd hf
    split at hc
    ·rename_i n ag hn hag
     split at hc
     ·cases hc
     ·rename_i hn0;cases hc;exact Nt ho hu hf hn hag hn0
    ·cases hc
   ·cases hc
  ·cases hc
 ·rename_i t x i ho
  split at hc
  ·rename_i e hu
   split at hc
   ·rename_i sz h1;cases hc;exact Mw ho hu h1
   ·cases hc
  ·rename_i n e hu
   split at hc
   ·rename_i sz h1;cases hc;exact Mx ho hu h1
   ·cases hc
  ·cases hc
 ·rename_i op t x y t' ho;exact Nu ho hc
 ·rename_i t x ho;cases hc;exact Mz ho
 ·rename_i t x ho;cases hc;exact MA ho
 ·rename_i s d x ho
  split at hc
  ·rename_i k0 k h1 h2;cases hc;exact MC ho h1 h2
  ·cases hc
 ·rename_i x i ho;cases hc;exact MG ho
 ·rename_i f first bp ho
  split at hc
  ·rename_i i hi;cases hc;exact MH ho hi
  ·cases hc
 ·rename_i t ho;cases hc;exact MI ho
 ·rename_i t m k ok ho
  split at hc
  ·rename_i kt et hu
   split at hc
   ·rename_i kk i hk hi
    split at hc
    ·rename_i z hz;cases hc;exact Vv (str:=false) ho hu hk ⟨kk,rfl⟩ hi hz
    ·cases hc
   ·rename_i i hk hi
    split at hc
    ·rename_i z hz;cases hc;exact Vv (str:=true) ho hu hk rfl hi hz
    ·cases hc
   ·cases hc
  ·cases hc
 ·rename_i t m k v ho
  split at hc
  ·rename_i kt et hu
   split at hc
   ·rename_i kk hk;cases hc;exact J3 (str:=false) ho hu hk ⟨kk,rfl⟩
   ·rename_i hk;cases hc;exact J3 (str:=true) ho hu hk rfl
   ·cases hc
  ·cases hc
 ·rename_i t m k v ho
  split at hc
  ·rename_i kt et hu
   split at hc
   ·rename_i kk hk;cases hc;exact KH (str:=false) ho hu hk ⟨kk,rfl⟩
   ·rename_i hk;cases hc;exact KH (str:=true) ho hu hk rfl
   ·cases hc
  ·cases hc
 ·rename_i x ho;cases hc;exact Nj ho
 ·rename_i t x i ho
  split at hc
  ·rename_i n e hu
   split at hc
   ·rename_i sz h1 h2;cases hc;exact Nk ho hu h1 h2
   ·cases hc
  ·cases hc
 ·rename_i t l c ho
  split at hc
  ·rename_i e hu
   split at hc
   ·rename_i sz bG z h1 h2 h3
    split at hc
    ·rename_i bD
     obtain ⟨rfl,h4,h5⟩:=bD
     cases hc
     exact MS ho hu h1 h2 h3 h4 h5 (xR h3)
    ·cases hc
   ·cases hc
  ·cases hc
 ·rename_i t x lo hi ho
  split at hc
  ·rename_i e hu
   split at hc
   ·rename_i sz h1;cases hc;exact Ni ho hu h1
   ·cases hc
  ·cases hc
 ·rename_i b args ts ho;exact WP ho hc
 ·cases hc;exact VA _ _ _
 ·cases hc;exact VA _ _ _
 ·rename_i t x ho
  split at hc
  ·rename_i fs hu;cases hc;exact Na ho hu
  ·cases hc
 ·cases hc
end
end
structure aQ where
 dst:Option Nat
 op:cO
 guard:Option (Nat×Bool)
 deriving Inhabited
inductive cy where
 | skip
 | region (draw:Bool) (ord:List Nat) (items:List aQ) (keep:Option (List Nat))
 | seq (x y:cy)
 | cond (c:aZ) (x y:cy)
 | block (id:Nat) (x:cy)
 | loop (x:cy)
 | scope (x:cy)
 | exit (id:Nat)
 | ret
 | range (f:aZ) (ps:List Nat) (assign body:cy)
 deriving Inhabited
def cy.erase:cy→cy
 | .region d ord items _=>.region d ord items none
 | .seq x y=>.seq x.erase y.erase
 | .cond c x y=>.cond c x.erase y.erase
 | .block id x=>.block id x.erase
 | .loop x=>.loop x.erase
 | .scope x=>.scope x.erase
 | .range f ps x y=>.range f ps x.erase y.erase
 | c=>c
def FM (nt:Nat):Option Nat→Bool
 | some d=>decide (d < nt)
 | none=>true
def xB (C:Ctx) (nt:Nat) (ops:Array Oper) (o:Oper):Option aQ:=
 match kn C o.op with
 | some ao=>
  if FM nt o.dst then
   match o.guard with
   | none=>some ⟨o.dst,ao,none⟩
   | some (j,want)=>match (ops[j]?).bind (·.dst) with
    | some t=>if t < nt then some ⟨o.dst,ao,some (t,want)⟩ else none
    | none=>none
  else none
 | none=>none
def ea (ord:List Nat) (i j:Nat):Bool:=(ord.getD j 0).testBit i
def vP (ops:Array Oper) (ord:List Nat):Bool:=
 ((uz ops.size).all fun i=>match ops[i]? with
  | some oi=>oi.after.all fun e=>!Region.binds .any e||decide (e.on < i)
  | none=>true) &&
 (uz ops.size).all fun i=>match ops[i]? with
  | some oi=>match oi.dst with
   | some d=>(uz ops.size).all fun j=>i == j||match ops[j]? with
    | some oj=>oj.dst != some d&&(!((oj.looksAt ops).contains d)||(if i < j then ea ord i j else ea ord j i))
    | none=>true
   | none=>true
  | none=>true
def comp (C:Ctx) (nt:Nat):Code→Option cy
 | .skip=>some .skip
 | .region _ ops draw=>match aM (xB C nt ops) ops.toList with
  | some items=>if draw then (if C.P.follows .mixedOrders&&vP ops (Region.before ops).toList then some (.region true (Region.before ops).toList items none) else none) else some (.region false [] items none)
  | none=>none
 | .seq a b=>match comp C nt a,comp C nt b with
  | some x,some y=>some (.seq x y)
  | _,_=>none
 | .cond c a b=>match comp C nt a,comp C nt b with
  | some x,some y=>some (.cond (C.bf c) x y)
  | _,_=>none
 | .block id a=>match comp C nt a with
  | some x=>some (.block id x)
  | none=>none
 | .loop a=>match comp C nt a with
  | some x=>some (.loop x)
  | none=>none
 | .scope a=>match comp C nt a with
  | some x=>some (.scope x)
  | none=>none
 | .label _=>some .skip
 | .exit id=>some (.exit id)
 | .ret=>some .ret
 | .rangeFunc f ps a b=>if ps.toList.all (fun t=>decide (t < nt)) then match comp C nt a,comp C nt b with
  | some x,some y=>some (.range (C.bf f) ps.toList x y)
  | _,_=>none
  else none
 | _=>none
inductive dL where
 | tmp (t:Nat)
 | cell (t:Nat) (agg:Bool) (n:Nat)
 deriving Inhabited
structure dz where
 nt:Nat
 results:List dL
 body:cy
 deriving Inhabited
def yn (C:Ctx):ResultVar→Option dL
 | .tmp t=>some (.tmp t)
 | .cell t ty=>match jB C.P ty,zz C.P ty with
  | some ag,some n=>some (.cell t ag n)
  | _,_=>none
def dz.erase (F:dz):dz:={F with body:=F.body.erase}
def qo (C:Ctx) (f:Nat):Option dz:=match C.P.funcs[C.ed f]? with
 | some fn=>match fn.body with
  | some code=>match comp C fn.ntmps code,aM (yn C) fn.results.toList with
   | some ac, some rs => if fn.name == "runtime.NumGoroutine" then none else some ⟨fn.ntmps, rs, ac⟩
   | _,_=>none
  | none=>none
 | none=>none
section
def yo (C : Ctx) (f : Nat) : Prop := ∃ fn, C.P.funcs[C.ed f]? = some fn ∧ fn.body.isSome = true ∧ (fn.name == "runtime.NumGoroutine") = false
def Nv (Z:Nat→Nat) (w:World) (xs:List IV) (vs:List Value):Prop:=ic Z w xs vs
def aL (C:Ctx) (f:Nat) (args:List IV) (r:IV):Prop:=yo C f ∧
 ∀ (Z:Nat→Nat) (w:World) (vs:List Value),(∀ b,0 < Z b→b < w.heap.size)→(C.tabs.p w∧C.tabs.n≤w.heap.size)→Nv Z w args vs →
  Calls C.P (C.ed f) vs.toArray w fun e w'=>∃ v Z',e=.returned v∧RI Z' w' r v∧(∀ b,b < w.heap.size→Z' b=Z b)∧(∀ b,0 < Z' b→b < w'.heap.size)∧Below w.heap.size w w'
def nG (C:Ctx) (g:Gh) (h:Nat→Option aG) (N:Nat→Prop) (w:World) (xs:List AV) (vs:List Value):Prop:=
 xs.length=vs.length∧∀ (j:Nat) (x:AV) (u:Value),xs[j]?=some x→vs[j]?=some u→RV C g h N w x u
def bF (C:Ctx) (f:Nat) (args:List AV) (heap:List (Nat×aG)) (next:Nat) (K:AV→List (Nat×aG)→Nat→Prop):Prop:=yo C f ∧
 ∀ (g:Gh) (w:World) (vs:List Value),RH C g (za heap) (· < next) w→nG C g (za heap) (· < next) w args vs →
  Calls C.P (C.ed f) vs.toArray w fun e w'=>∃ v r heap' next' g',e=.returned v∧K r heap' next' ∧
   bW g (za heap) (· < next) w g' (za heap') (· < next') w'∧RH C g' (za heap') (· < next') w'∧RV C g' (za heap') (· < next') w' r v
structure bB extends Ctx where
 ro:Option Nat
 eP:Option (Gh×St×World)
 Y:Nat→Nat→List AV→List (Nat×aG)→Nat→(AV→List (Nat×aG)→Nat→Prop)→Prop
 ou:∀ l id args heap next (K K':AV→List (Nat×aG)→Nat→Prop),(∀ r h n,K r h n→K' r h n)→Y l id args heap next K→Y l id args heap next K'
 De:∀ l id args heap next K,Y l id args heap next K→∀ (g:Gh) (w:World) (vs:List Value),RH toCtx g (za heap) (· < next) w→nG toCtx g (za heap) (· < next) w args vs→(∀ R s pe,za heap id=some (.lp l R s pe)→g.ρ id=some l) →
  (match eP with | none=>True | some (g0,cK,w0)=>bW g0 (za cK.heap) (· < cK.next) w0 g (za heap) (· < next) w) →
  YieldAt Fence.wide 0 P l vs.toArray w fun e w'=>∃ v r heap' next' g',e=.returned v∧K r heap' next' ∧
   bW g (za heap) (· < next) w g' (za heap') (· < next') w'∧RH toCtx g' (za heap') (· < next') w'∧RV toCtx g' (za heap') (· < next') w' r v
instance:Coe bB Ctx:=⟨bB.toCtx⟩
def tD:Nat→Nat→List AV→List (Nat×aG)→Nat→(AV→List (Nat×aG)→Nat→Prop)→Prop:=fun _ _ _ _ _ _=>False
def Ctx.plain (C:Ctx):bB:={C with ro:=none,eP:=none,Y:=tD,ou:=fun _ _ _ _ _ _ _ _ h=>h,De:=fun _ _ _ _ _ _ h=>h.elim}
def bB.inv (C:bB) (g:Gh) (st:St) (w:World):Prop:=match C.eP with
 | none=>True
 | some (g0,cK,w0)=>bW g0 (za cK.heap) (· < cK.next) w0 g (za st.heap) (· < st.next) w
theorem bB.inv.eO {C:bB} {g g':Gh} {st aY:St} {w w':World} (h:C.inv g st w) (E:bW g (za st.heap) (· < st.next) w g' (za aY.heap) (· < aY.next) w'):C.inv g' aY w':=by
 unfold bB.inv at *
 split
 ·trivial
 ·rename_i e;rw [e] at h;exact bW.trans h E
def pg:Option Nat→Fence
 | none=>Fence.wide
 | some l=>Fence.wide.inRound l
theorem QB (ro:Option Nat) (f:FuncId):(pg ro).fn f:=by cases ro<;>trivial
theorem J9 (ro:Option Nat):(pg ro).depth=none:=by cases ro<;>rfl
theorem KI {ro:Option Nat} {n:Nat} {P:Program} {f:FuncId} {args:Array Value} {w:World} {R:Ending→World→Prop} (h:Calls P f args w R):CallsIn (pg ro) n P f args w R:=by
 cases ro with
 | none=>exact callsIn_wide.2 h
 | some l=>exact CallsIn.inRound l (callsIn_wide.2 h)
theorem Nw {ro:Option Nat} {n:Nat} {P:Program} {l:Nat} {f:FuncId} {tmps:Array Value} {assign body:Code} {w:World} {R:Ending→World→Prop} (h:RoundIn Fence.wide n P l f tmps assign body w R):RoundIn (pg ro) n P l f tmps assign body w R:=by
 cases ro<;>exact h
def qT:Nat:=999999
def zy {α:Type}:List (Nat×α)→Nat→α→List (Nat×α)
 | [],i,x=>[(i,x)]
 | (k,v)::r,i,x=>if k=i then (i,x)::r else if k=qT then (i,x)::(k,v)::r else (k,v)::zy r i x
theorem zA {α:Type} (l:List (Nat×α)) (i:Nat) (x:α) (j:Nat):za (zy l i x) j=if i=j then some x else za l j:=by
 induction l with
 | nil=>simp [zy,za]
 | cons p r ih=>
  obtain ⟨k,v⟩:=p
  simp only [zy]
  split
  ·rename_i hk
   subst hk
   simp only [za]
   split<;>rfl
  ·rename_i hk
   split
   ·simp only [za]
   ·simp only [za,ih]
    split
    ·rename_i hkj
     rw [if_neg (by omega)]
    ·rfl
def zG:List (Nat×aG)→List (Nat×aG)→List (Nat×aG)
 | [],heap=>heap
 | (k,o)::r,heap=>zy (zG r heap) k o
theorem jK (aO heap:List (Nat×aG)):za (zG aO heap)=bz aO (za heap):=by
 induction aO with
 | nil=>rfl
 | cons p r ih=>
  obtain ⟨k,o⟩:=p
  funext i
  simp only [zG,bz,zA,ih]
def St.put (st:St) (dst:Option Nat) (r:AV):St:=match dst with
 | some t=>{st with env:=zo st.env t r}
 | none=>st
def St.after (st:St) (dst:Option Nat) (r:AV) (aO:List (Nat×aG)):St:=
 St.put {st with heap:=zG aO st.heap,next:=st.next+1} dst r
def qd (env:List (Nat×AV)):Option (Nat×Bool)→Option Bool
 | none=>some true
 | some (t,want)=>match (za env t).getD .top with
  | .ax (.bool b)=>some (b == want)
  | .undef=>some false
  | _=>none
def vQ (C:bB) (it:aQ) (st:St) (K:St→Prop):Prop:=
 match qd st.env it.guard with
 | some false=>K (st.after it.dst .undef [])
 | some true=>match it.op with
  | .call f args=>match zd st.env f with
   | .func f' first bp=>bF C f' (first++args.map (zd st.env)++bp) st.heap st.next fun r heap' next'=>K (St.put {env:=st.env,heap:=heap',next:=next'+1} it.dst r)
   | .eB l id=>C.Y l id (args.map (zd st.env)) st.heap st.next fun r heap' next'=>K (St.put {env:=st.env,heap:=heap',next:=next'+1} it.dst r)
   | _=>False
  | op=>match ai op (zd st.env) (za st.heap) st.next with
   | some (r,aO)=>K (st.after it.dst r aO)
   | none=>False
 | none=>False
def Ar (C:bB):List aQ→(St→Prop)→St→Prop
 | [],K,st=>K st
 | it::rest,K,st=>vQ C it st (Ar C rest K)
section
variable {C:Ctx} {nt:Fr} {g g':Gh} {st aY:St} {a:Act} {w w':World}
def dB (g:Gh) (st:St) (w:World) (g':Gh) (aY:St) (w':World):Prop:=bW g (za st.heap) (· < st.next) w g' (za aY.heap) (· < aY.next) w'
theorem dB.refl (g:Gh) (st:St) (w:World):dB g st w g st w:=bW.refl _ _ _ _
theorem dB.trans {g₁ g₂ g₃:Gh} {s₁ s₂ s₃:St} {w₁ w₂ w₃:World} (A:dB g₁ s₁ w₁ g₂ s₂ w₂) (B:dB g₂ s₂ w₂ g₃ s₃ w₃):dB g₁ s₁ w₁ g₃ s₃ w₃:=bW.trans A B
theorem FN (a:Act) (d:Nat) (v:Value) (t:Nat) (hd:d < a.tmps.size):(a.put (some d) v).tmps.getD t undef=if d=t then v else a.tmps.getD t undef:=by
 simp only [Act.put]
 by_cases h:d=t
 ·subst h;simp [hd]
 ·rw [if_neg h];simp [Array.getElem?_setIfInBounds_ne h]
theorem RE.put {env:List (Nat×AV)} {h:Nat→Option aG} {N:Nat→Prop} (R:RE C nt g env h N a w) (d:Nat) (hd:d < nt.n) {x:AV} {v:Value} (hx:RV C g h N w x v):RE C nt g (zo env d x) h N (a.put (some d) v) w:=by
 refine ⟨by simp [Act.put,R.size],R.defers,fun t y hy => ?_⟩
 rw [FN a d v t (by rw [R.size];exact hd)]
 rw [zp] at hy
 split at hy
 ·rename_i e;rw [if_pos e];cases hy;exact hx
 ·rename_i e;rw [if_neg e];exact R.slot t y hy
theorem Rel.put (R:Rel C nt g st a w) (dst:Option Nat) (hd:∀ d,dst=some d→d < nt.n) {x:AV} {v:Value} (hx:RV C g (za st.heap) (· < st.next) w x v) :
  Rel C nt g (st.put dst x) (a.put dst v) w:=by
 cases dst with
 | none=>exact R
 | some d=>exact ⟨R.env.put d (hd d rfl) hx,R.heap⟩
theorem xm (n:Nat):qh (· < n) n=(· < n+1):=by
 funext i
 simp only [qh,eq_iff_iff]
 omega
theorem RE.mono {env:List (Nat×AV)} {h h':Nat→Option aG} {N N':Nat→Prop} (R:RE C nt g env h N a w) (E:bW g h N w g' h' N' w'):RE C nt g' env h' N' a w':=
 ⟨R.size,R.defers.eO E,fun t x hx=>(R.slot t x hx).mono E⟩
theorem KJ (R:Rel C nt g st a w) {dst:Option Nat} (hd:∀ d,dst=some d→d < nt.n) {r:AV} {aO:List (Nat×aG)} {v:Value} (hg:Good C g (za st.heap) (· < st.next) w st.next r aO v w') :
  ∃ g',Rel C nt g' (st.after dst r aO) (a.put dst v) w'∧dB g st w g' (st.after dst r aO) w':=by
 obtain ⟨g',E,H,hv⟩:=hg
 rw [xm] at E H hv
 rw [←jK] at E H hv
 refine ⟨g',?_,?_⟩
 ·have R':Rel C nt g' {st with heap:=zG aO st.heap,next:=st.next+1} a w':=⟨R.env.mono E,H⟩
  exact R'.put dst hd hv
 ·cases dst<;>exact E
theorem Zv (R:Rel C nt g st a w) (x:Operand):RV C g (za st.heap) (· < st.next) w (zd st.env (C.bf x)) (a.eval x):=by
 cases x with
 | tmp t=>
  simp only [Ctx.bf,zd,Act.eval]
  cases h:za st.env t with
  | none=>exact .top _
  | some y=>exact R.env.slot t y h
 | const v=>exact vg v
 | global gg=>exact .top _
 | func f=>
  simp only [Ctx.bf]
  split
  ·rename_i i hi
   have:=RV.func (C:=C) (g:=g) (h:=za st.heap) (N:=(· < st.next)) (w:=w) i [] [] [] [] rfl rfl (fun j c v hj=>by simp at hj) (fun j c v hj=>by simp at hj)
   rw [kT hi] at this
   exact this
  ·exact .top _
theorem wR {ops:Array Oper} {o:Oper} {it:aQ} (hc:xB C nt.n ops o=some it):kn C o.op=some it.op∧it.dst=o.dst∧(∀ d,o.dst=some d→d < nt.n) ∧
  ((o.guard=none∧it.guard=none)∨∃ j want t,o.guard=some (j,want)∧(ops[j]?).bind (·.dst)=some t∧t < nt.n∧it.guard=some (t,want)):=by
 unfold xB at hc
 split at hc
 ·rename_i ao hao
  split at hc
  ·rename_i hd
   have FO:∀ d,o.dst=some d→d < nt.n:=fun d h=>by simpa [h,FM] using hd
   split at hc
   ·rename_i hg;cases hc;exact ⟨hao,rfl,FO,.inl ⟨hg,rfl⟩⟩
   ·rename_i j want hg
    split at hc
    ·rename_i t ht
     split at hc
     ·rename_i pq;cases hc;exact ⟨hao,rfl,FO,.inr ⟨j,want,t,hg,ht,pq,rfl⟩⟩
     ·cases hc
    ·cases hc
  ·cases hc
 ·cases hc
theorem Xa (R:Rel C nt g st a w) {ops:Array Oper} {o:Oper} {it:aQ} (hc:xB C nt.n ops o=some it) {b:Bool} (hg:qd st.env it.guard=some b) :
  Region.wanted o (yielded ops a.tmps)=b:=by
 obtain ⟨_,_,_,hgd⟩:=wR hc
 rcases hgd with ⟨h1,h2⟩ | ⟨j,want,t,h1,h2,h3,h4⟩
 ·rw [h2] at hg
  simp only [qd,Option.some.injEq] at hg
  subst hg
  simp [Region.wanted,h1]
 ·rw [h4] at hg
  simp only [qd] at hg
  simp only [Region.wanted,h1,yielded,h2,aX]
  have hlt:t < a.tmps.size:=by rw [R.env.size];exact h3
  cases hs:za st.env t with
  | none=>simp [hs] at hg
  | some x=>
   have hv:=R.env.slot t x hs
   simp only [hs,Option.getD_some] at hg
   have cS:a.tmps[t]?=some (a.tmps.getD t undef):=by simp [hlt]
   rw [cS]
   split at hg
   ·rename_i b'
    cases hg
    rw [vt hv]
    cases b'<;>cases want<;>rfl
   ·cases hg
    generalize a.tmps.getD t undef=u at hv
    cases hv
    cases want<;>rfl
   ·cases hg
inductive eE (C:Ctx) (o:Op) (f:aZ) (cD:Array Operand):Prop where
 | value (fo:Operand) (ts:Array TypeId) (ho:o=.call {callee:=.value fo,args:=cD,argTypes:=ts}) (hf:f=C.bf fo)
 | inv (r:Nat) (name:String) (ts:Array TypeId) (ho:o=.call {callee:=.invoke (.tmp r) name,args:=cD,argTypes:=ts}) (hf:f=.m r (yh C.P C.mo name C.ifs))
theorem Wv {o:Op} {f:aZ} {args:List aZ} (hc:kn C o=some (.call f args)):∃ cD,eE C o f cD∧args=cD.toList.map C.bf:=by
 unfold kn at hc
 split at hc
 all_goals first
  | (cases hc;done)
  | (simp only [Option.some.injEq,cO.call.injEq] at hc;obtain ⟨rfl,rfl⟩:=hc;first | exact ⟨_,.value _ _ rfl rfl,rfl⟩ | exact ⟨_,.inv _ _ _ rfl rfl,rfl⟩)
  | (repeat' split at hc)<;>(cases hc;done)
  | (unfold XV at hc;(repeat' split at hc)<;>(cases hc;done))
  | (unfold yR at hc;(repeat' split at hc)<;>(cases hc;done))
end
end
section
section
variable {C:bB} {nt:Fr} {g g':Gh} {st aY:St} {a:Act} {w w':World}
def Post (C:Ctx) (nt:Fr) (g0:Gh) (cK:St) (w0:World) (K:Exit→St→Prop):Exit→Act→World→Prop:=
 fun e a' w'=>∃ aY g',K e aY∧Rel C nt g' aY a' w'∧dB g0 cK w0 g' aY w'
theorem Nx {C:Ctx} {o:Oper} {fo:Operand} {cD:Array Operand} {ts:Array TypeId} (ho:o.op=.call {callee:=.value fo,args:=cD,argTypes:=ts}) {val:Operand→Value} {f:Nat} {first bp:Array Value}
  (hf:val fo=.func (.func (C.ed f)) first bp) (hc:yo C f) (w:World):(execOp val o).run C.P w=.ok (.enter (C.ed f) (first++cD.map val++bp)) w:=by
 obtain ⟨fn,h1,h2,h3⟩:=hc
 have h4:¬ fn.body=none:=fun h=>by simp [h] at h2
 have h5 : ¬ fn.name = "runtime.NumGoroutine" := fun h => by simp [h] at h3
 simp [execOp,ho,resolve,Deferred.ofValue,hf,invoke,callFunc,h1,h4,h5]
theorem yT {P:Program} {mo:List Nat} {name:String}:∀ {ts:List TypeId} {t i:Nat},za (yh P mo name ts) t=some i→∃ f,Vr P t name=some f∧Jc mo f=some i
 | [],t,i,h=>by cases h
 | u::r,t,i,h=>by
  unfold yh at h
  split at h
  ·rename_i f hf
   split at h
   ·rename_i j hj
    simp only [za] at h
    split at h
    ·rename_i e
     cases h
     subst e
     exact ⟨f,hf,hj⟩
    ·exact yT h
   ·exact yT h
  ·exact yT h
theorem Ny {P:Program} {t:TypeId} {name:String} {f:FuncId} (h:Vr P t name=some f) (k:Nat) (v:Value) (w:World):(method (k+1) t v name).run P w=.ok (f,v) w:=by
 unfold Vr at h
 split at h
 ·rename_i i hi
  split at h
  ·rename_i m hm
   split at h
   ·rename_i f' fs hp hf hu
    cases h
    have Nz:(typeInfo t).run P w=.ok i w:=by simp [typeInfo,Sem.run_bind,hi]
    simp only [method,Sem.run_bind,Nz,Result.andThen_ok,hm,hp,follow,Sem.run_pure,hf,receiverAt,run_underlying hu,Place.get]
   ·cases h
  ·cases h
 ·cases h
theorem NA {o:Oper} {fo:Operand} {cD:Array Operand} {ts:Array TypeId} (ho:o.op=.call {callee:=.value fo,args:=cD,argTypes:=ts}) {val:Operand→Value} {l:Nat}
  (hf:val fo=.func (.yield l) #[] #[]) {P:Program} (w:World):(execOp val o).run P w=(Instr.yield l (cD.map val)).run P w:=by
 simp [execOp,ho,resolve,Deferred.ofValue,hf,invoke]
open Classical in
theorem VB {F:Fence} {n:Nat} {P:Program} {c:Code} {Q:Exit→Act→World→Prop} {a:Act} {w:World} (J:Nat→Act→World→Prop) (m:Nat) (h0:J m a w)
  (round:∀ m a w,J m a w→c.wpIn F n P (Exit.then (fun a' w'=>∃ m',m' < m∧J m' a' w') Q) a w):(Code.loop c).wpIn F n P Q a w:=by
 have least:∀ (p:Nat→Prop) (m:Nat),p m→∃ k,p k∧∀ j,p j→k≤j:=by
  intro p m
  induction m using uK with
  | _ m ih=>
   intro hm
   by_cases h:∃ j,j < m∧p j
   ·obtain ⟨j,hj,hp⟩:=h;exact ih j hj hp
   ·exact ⟨m,hm,fun j hj=>Nat.le_of_not_lt fun hlt=>h ⟨j,hlt,hj⟩⟩
 let μ:Act→World→Nat:=fun a w=>if h:∃ k,J k a w∧∀ j,J j a w→k≤j then h.choose else 0
 have hμ:∀ a w m,J m a w→J (μ a w) a w∧μ a w≤m:=fun a w m hm=>by
  have h:=least (fun k=>J k a w) m hm
  show J (if h:∃ k,J k a w∧∀ j,J j a w→k≤j then h.choose else 0) a w∧(if h:∃ k,J k a w∧∀ j,J j a w→k≤j then h.choose else 0)≤m
  rw [dif_pos h]
  exact ⟨h.choose_spec.1,h.choose_spec.2 m hm⟩
 refine wpIn_loop (fun a w=>∃ m,J m a w) μ ⟨m,h0⟩ fun a w ⟨m,hm⟩ => ?_
 refine Code.wpIn_mono ?_ (round (μ a w) a w (hμ a w m hm).1)
 intro e a' w' q
 cases e with
 | normal=>
  obtain ⟨m',hlt,hJ⟩:=q
  exact ⟨⟨m',hJ⟩,Nat.lt_of_le_of_lt (hμ a' w' m' hJ).2 hlt⟩
 | _=>exact q
theorem VC {C:Ctx} {g:Gh} {h:Nat→Option aG} {N:Nat→Prop} {w:World} {o:Oper} {env:List (Nat×AV)} {val:Operand→Value} (hv:∀ x∈o.op.operands,RV C g h N w (zd env (C.bf x)) (val x))
  {f:aZ} {cD:Array Operand} {f':Nat} {first bp:List AV} (S:eE C o.op f cD) (hf:zd env f=.func f' first bp) :
  ∃ vf vc:List Value,nG C g h N w (first++(cD.toList.map C.bf).map (zd env)++bp) (vf++(cD.toList.map val)++vc) ∧
   ∀ w,yo C f'→(execOp val o).run C.P w=.ok (.enter (C.ed f') (vf.toArray++cD.map val++vc.toArray)) w:=by
 cases S with
 | value fo ts ho hfo=>
  subst hfo
  have Df:=hv fo (by simp [ho,Op.operands,Call.operands])
  rw [hf] at Df
  generalize hval:val fo=v at Df
  cases Df with
  | func _ _ _ vf vc hlf hlc FP hc1=>
   refine ⟨vf,vc,⟨by simp [hlf,hlc],fun j x u hj hu => ?_⟩,fun w hc=>Nx ho hval hc w⟩
   rw [List.append_assoc,uD] at hj hu
   rw [hlf] at hj
   split at hj
   ·rename_i hlt;rw [if_pos hlt] at hu;exact FP j x u hj hu
   ·rename_i hlt
    rw [if_neg hlt] at hu
    rw [uD] at hj hu
    simp only [List.length_map] at hj hu
    split at hj
    ·rename_i ir
     rw [if_pos ir] at hu
     simp only [un,ub] at hj hu
     obtain ⟨o1,⟨y,hy,rfl⟩,rfl⟩:=hj
     obtain ⟨z,hz,rfl⟩:=hu
     rw [hy] at hz
     cases hz
     exact hv y (by simp only [ho,Op.operands,Call.operands];simp;exact .inr (by simpa using uc hy))
    ·rename_i ir
     rw [if_neg ir] at hu
     exact hc1 _ x u hj hu
 | inv r name ts ho hfo=>
  subst hfo
  simp only [zd] at hf
  split at hf
  ·rename_i t x e1
   split at hf
   ·rename_i i e2
    cases hf
    obtain ⟨fid,h1,h2⟩:=yT e2
    have BK:=hv (.tmp r) (by simp [ho,Op.operands,Call.operands])
    simp only [Ctx.bf,zd] at BK
    rw [e1] at BK
    generalize hval:val (.tmp r)=v at BK
    cases BK with
    | ax _ _ hr=>
     cases hr with
     | iface _ _ u hr=>
      refine ⟨[u],[],⟨by simp,fun j y z hj hz => ?_⟩,fun w hc => ?_⟩
      ·cases j with
       | zero=>simp at hj hz;subst hj hz;exact .ax _ _ hr
       | succ j=>
        simp only [List.append_nil,List.cons_append,List.nil_append,List.getElem?_cons_succ,un,ub] at hj hz
        obtain ⟨o1,⟨y',hy,rfl⟩,rfl⟩:=hj
        obtain ⟨z',hz,rfl⟩:=hz
        rw [hy] at hz
        cases hz
        exact hv y' (by simp only [ho,Op.operands,Call.operands];simp;exact .inr (by simpa using uc hy))
      ·obtain ⟨fn,h3,h4,h5⟩:=hc
       have h6:¬ fn.body=none:=fun h=>by simp [h] at h4
       have h7 : ¬ fn.name = "runtime.NumGoroutine" := fun h => by simp [h] at h5
       have hfn:=kT h2
       have hm:=Ny h1 (C.P.types.size+99) u w
       have hd:C.P.types.size+Made.depth=C.P.types.size+99+1:=rfl
       have he:(cD.map val).extract 0 cD.size=cD.map val:=by
        apply uM
        simp only [Array.toList_extract,List.extract_eq_take_drop,List.drop_zero,uO,Array.toList_map]
        exact List.take_of_length_le (by simp)
       rw [hfn] at h3 ⊢
       have h0:(#[Value.iface t u]++cD.map val)[0]?=some (.iface t u):=by
        rw [Array.getElem?_append_left (by simp)];rfl
       simp [execOp,ho,resolve,hval,invoke,callMethod,he,callFunc]
       rw [h0]
       simp [Sem.run_bind,hd,hm,h3,h6,h7]
   ·cases hf
  ·cases hf
theorem NB {C:Ctx} (R:Rel C nt g st a w) {o:Oper} {f:aZ} {cD:Array Operand} {f':Nat} {first bp:List AV} (S:eE C o.op f cD) (hf:zd st.env f=.func f' first bp) :
 ∃ vf vc:List Value,nG C g (za st.heap) (· < st.next) w (first++(cD.toList.map C.bf).map (zd st.env)++bp) (vf++(cD.toList.map a.eval)++vc) ∧
  ∀ w,yo C f'→(execOp a.eval o).run C.P w=.ok (.enter (C.ed f') (vf.toArray++cD.map a.eval++vc.toArray)) w:=VC (fun x _=>Zv R x) S hf
theorem eE.fM {C:Ctx} {o:Op} {f:aZ} {cD:Array Operand} (S:eE C o f cD):∃ c,o=.call c:=by
 cases S with
 | value fo ts ho _=>exact ⟨_,ho⟩
 | inv r name ts ho _=>exact ⟨_,ho⟩
theorem eE.eB {C:Ctx} {o:Op} {f:aZ} {cD:Array Operand} (S:eE C o f cD) {env:List (Nat×AV)} {l id:Nat} (h:zd env f=.eB l id):∃ fo ts,o=.call {callee:=.value fo,args:=cD,argTypes:=ts}∧f=C.bf fo:=by
 cases S with
 | value fo ts ho hf=>exact ⟨fo,ts,ho,hf⟩
 | inv r name ts ho hf=>
  subst hf
  simp only [zd] at h
  split at h
  ·split at h<;>cases h
  ·cases h
theorem NC {ops:Array Oper} {o:Oper} {it:aQ} (hc:xB C nt.n ops o=some it) {K:St→Prop} (he:vQ C it st K) (R:Rel C nt g st a w) (hI:C.inv g st w)
  {next:Act→World→Prop} {Q:Exit→Act→World→Prop}
  (hn:∀ aY g' a' w',K aY→Rel C nt g' aY a' w'→dB g st w g' aY w'→next a' w') :
  if Region.wanted o (yielded ops a.tmps) then o.wpIn (pg C.ro) 0 C.P a w next Q else next (a.put o.dst undef) w:=by
 obtain ⟨hop,eW,lJ,_⟩:=wR hc
 unfold vQ at he
 split at he
 ·rename_i hg
  rw [Xa R hc hg]
  simp only [uk,if_false]
  obtain ⟨g',R',E'⟩:=KJ (dst:=it.dst) R (fun d hd=>lJ d (eW ▸ hd)) (zs (id:=st.next) R.heap RV.undef)
  rw [eW] at R' he E'
  exact hn _ _ _ _ he R' E'
 ·rename_i hg
  rw [Xa R hc hg]
  simp only [if_true]
  split at he
  ·rename_i f args fT
   rw [fT] at hop
   obtain ⟨cD,S,rfl⟩:=Wv hop
   obtain ⟨cc,nT⟩:=S.fM
   split at he
   ·rename_i f' first bp tE
    obtain ⟨vf,vc,ow,ox⟩:=NB R S tE
    obtain ⟨fN,mH⟩:=he
    have hrun:=ox w fN
    refine ⟨fun f _=>QB _ f,?_⟩
    rw [Oper.semAt_eq _ _ _ (fun c hc=>by rw [nT] at hc;cases hc),hrun]
    simp only [Oper.uponIn]
    refine ⟨fun h=>(by rw [J9] at h;cases h),KI ?_⟩
    have mI:vf.toArray++cD.map a.eval++vc.toArray=(vf++cD.toList.map a.eval++vc).toArray:=by apply uM;simp
    rw [mI]
    refine (mH g w _ R.heap ow).mono ?_
    rintro e w' ⟨v,r,heap',next',g',rfl,hK,E,H,hv⟩
    have R1:Rel C nt g' {env:=st.env,heap:=heap',next:=next'} a w':=⟨R.env.mono E,H⟩
    have E2:bW g' (za heap') (· < next') w' g' (za heap') (· < next'+1) w':=by
     have:=bW.add g' (za heap') (· < next') w' next'
     rwa [xm] at this
    have H2:RH C g' (za heap') (· < next'+1) w':=by
     have:=H.add next'
     rwa [xm] at this
    have R2:Rel C nt g' {env:=st.env,heap:=heap',next:=next'+1} a w':=⟨R1.env.mono E2,H2⟩
    have R3:=R2.put it.dst (fun d hd=>lJ d (eW ▸ hd)) (hv.mono E2)
    rw [eW] at R3 hK
    refine hn _ _ _ _ hK R3 ?_
    cases hd:o.dst<;>exact bW.trans E E2
   ·rename_i l id tE
    obtain ⟨fo,ts,ho,rfl⟩:=S.eB tE
    have hv:=Zv R fo
    rw [tE] at hv
    generalize hval:a.eval fo=v at hv
    obtain ⟨rfl,hlp⟩:v=.func (.yield l) #[] #[]∧∀ R s pe,za st.heap id=some (.lp l R s pe)→g.ρ id=some l:=by cases hv with | eB _ _ _ hp=>exact ⟨rfl,hp⟩
    have ow:nG C g (za st.heap) (· < st.next) w ((cD.toList.map C.bf).map (zd st.env)) (cD.toList.map a.eval):=⟨by simp,fun j x u hj hu=>by
     simp only [un,ub] at hj hu
     obtain ⟨o1,⟨y,hy,rfl⟩,rfl⟩:=hj
     obtain ⟨z,hz,rfl⟩:=hu
     rw [hy] at hz
     cases hz
     exact Zv R y⟩
    obtain ⟨fn,tmps,assign,body,hy,hR⟩:=C.De l id _ _ _ _ he g w _ R.heap ow hlp hI
    have mI:(cD.toList.map a.eval).toArray=cD.map a.eval:=by apply uM;simp
    rw [mI] at hy
    refine ⟨fun f _=>QB _ f,?_⟩
    rw [Oper.semAt_eq _ _ _ (fun c hc=>by rw [ho] at hc;cases hc),NA ho hval,hy]
    simp only [Oper.uponIn]
    refine ⟨fun h=>(by rw [J9] at h;cases h),Nw (hR.mono ?_)⟩
    rintro e w' ⟨v,r,heap',next',g',rfl,hK,E,H,hv⟩
    have R1:Rel C nt g' {env:=st.env,heap:=heap',next:=next'} a w':=⟨R.env.mono E,H⟩
    have E2:bW g' (za heap') (· < next') w' g' (za heap') (· < next'+1) w':=by
     have:=bW.add g' (za heap') (· < next') w' next'
     rwa [xm] at this
    have H2:RH C g' (za heap') (· < next'+1) w':=by
     have:=H.add next'
     rwa [xm] at this
    have R2:Rel C nt g' {env:=st.env,heap:=heap',next:=next'+1} a w':=⟨R1.env.mono E2,H2⟩
    have R3:=R2.put it.dst (fun d hd=>lJ d (eW ▸ hd)) (hv.mono E2)
    rw [eW] at R3 hK
    refine hn _ _ _ _ hK R3 ?_
    cases hd:o.dst<;>exact bW.trans E E2
   ·exact he.elim
  ·rename_i su
   split at he
   ·rename_i r aO ig
    obtain ⟨v,w',gQ,nc⟩:=FL hop g (za st.heap) (· < st.next) w st.next (zd st.env) a.eval r aO R.heap (by omega) (fun x _=>Zv R x) ig
    obtain ⟨g',R',E'⟩:=KJ (dst:=it.dst) R (fun d hd=>lJ d (eW ▸ hd)) nc
    rw [eW] at R' he E'
    refine ⟨fun f _=>QB _ f,?_⟩
    rw [Oper.semAt_eq _ _ _ (fun c hc=>by rw [hc] at hop;simp [kn] at hop)]
    rcases gQ with gQ | ⟨gQ,rfl⟩
    ·rw [gQ];exact hn _ _ _ _ he R' E'
    ·rw [gQ];exact hn _ _ _ _ he R' E'
   ·exact he.elim
 ·exact he.elim
theorem ND {ops:Array Oper} {K:Exit→St→Prop} {g0:Gh} {cK:St} {w0:World}:∀ (l:List Oper) (items:List aQ),aM (xB C nt.n ops) l=some items →
  ∀ (st:St) (g:Gh) (a:Act) (w:World),Ar C items (K .normal) st→Rel C nt g st a w→C.inv g0 cK w0→dB g0 cK w0 g st w→wpListIn (pg C.ro) 0 C.P ops (Post C nt g0 cK w0 K) l a w:=by
 intro l
 induction l with
 | nil=>
  intro items hm st g a w he R hI E
  simp [aM] at hm
  subst hm
  exact ⟨st,g,he,R,E⟩
 | cons o l ih=>
  intro items hm st g a w he R hI E
  simp only [aM] at hm
  split at hm
  ·rename_i it hit
   split at hm
   ·rename_i its pL
    cases hm
    have:=NC (Q:=Post C nt g0 cK w0 K) (next:=wpListIn (pg C.ro) 0 C.P ops (Post C nt g0 cK w0 K) l) hit he R (hI.eO E) (fun aY g' a' w' hk R' E'=>ih its pL aY g' a' w' hk R' hI (E.trans E'))
    unfold wpListIn
    split
    ·rename_i hw;rw [if_pos hw] at this;exact this
    ·rename_i hw;rw [if_neg hw] at this;exact ⟨fun f _=>QB _ f,this⟩
   ·cases hm
  ·cases hm
def cG (C:bB) (nt:Fr) (ac:cy) (K:Exit→St→Prop) (st:St):Prop:=
 ∀ code,comp C nt.n code=some ac.erase→∀ g a w,Rel C nt g st a w→C.inv g st w→code.wpIn (pg C.ro) 0 C.P (Post C nt g st w K) a w
def qC (ks:List Nat) (env:List (Nat×AV)):List (Nat×AV):=env.filter fun p=>ks.contains p.1
def St.keep (st:St):Option (List Nat)→St
 | none=>st
 | some ks=>{st with env:=qC ks st.env}
theorem Jf {ks:List Nat}:∀ {env:List (Nat×AV)} {t:Nat} {x:AV},za (qC ks env) t=some x→za env t=some x
 | [],t,x,h=>by simp [qC,za] at h
 | (k,v)::r,t,x,h=>by
  simp only [qC,uJ] at h
  split at h
  ·simp only [za] at h ⊢
   split
   ·rename_i e;rw [if_pos e] at h;exact h
   ·rename_i e;rw [if_neg e] at h;exact Jf (ks:=ks) h
  ·rename_i hk
   have h':=Jf (ks:=ks) (env:=r) h
   simp only [za]
   split
   ·rename_i e
    subst e
    have hkn:ks.contains k=true:=by
     have:∀ {r:List (Nat×AV)},za (List.filter (fun p=>ks.contains p.1) r) k=some x→ks.contains k=true:=by
      intro r
      induction r with
      | nil=>intro h;simp [za] at h
      | cons p r ih=>
       intro h
       simp only [uJ] at h
       split at h
       ·rename_i hp
        simp only [za] at h
        split at h
        ·rename_i e;rw [←e];exact hp
        ·exact ih h
       ·exact ih h
     exact this h
    exact absurd hkn hk
   ·exact h'
theorem Rel.keep {C:Ctx} (R:Rel C nt g st a w) (ks:Option (List Nat)):Rel C nt g (st.keep ks) a w:=by
 cases ks with
 | none=>exact R
 | some ks=>exact ⟨⟨R.env.size,R.env.defers,fun t x h=>R.env.slot t x (Jf h)⟩,R.heap⟩
theorem Post.mono {C:Ctx} {g0:Gh} {cK:St} {w0:World} {K K':Exit→St→Prop} (h:∀ e st,K e st→K' e st):∀ e a w,Post C nt g0 cK w0 K e a w→Post C nt g0 cK w0 K' e a w:=
 fun e a w ⟨aY,g',hk,R,E⟩=>⟨aY,g',h e aY hk,R,E⟩
theorem qY {ac:cy} {K K':Exit→St→Prop} (h:∀ e st,K e st→K' e st) (hw:cG C nt ac K st):cG C nt ac K' st:=
 fun code hc g a w R hI=>Code.wpIn_mono (Post.mono h) (hw code hc g a w R hI)
theorem Jg {K:Exit→St→Prop} (h:K .normal st):cG C nt .skip K st:=by
 intro code hc g a w R hI
 simp only [cy.erase] at hc
 cases code
 case skip=>exact wpIn_skip ⟨st,g,h,R,dB.refl _ _ _⟩
 case label l=>exact wpIn_label ⟨st,g,h,R,dB.refl _ _ _⟩
 all_goals (simp only [comp] at hc;(repeat' split at hc)<;>cases hc)
theorem NE {code:Code} {x y:cy} (hc:comp C nt.n code=some (.seq x y)):∃ p q,code=.seq p q∧comp C nt.n p=some x∧comp C nt.n q=some y:=by
 cases code<;>simp only [comp] at hc<;>(repeat' split at hc)<;>cases hc
 rename_i h1 h2
 exact ⟨_,_,rfl,h1,h2⟩
theorem NF {code:Code} {c:aZ} {x y:cy} (hc:comp C nt.n code=some (.cond c x y)):∃ c' p q,code=.cond c' p q∧c=C.bf c'∧comp C nt.n p=some x∧comp C nt.n q=some y:=by
 cases code<;>simp only [comp] at hc<;>(repeat' split at hc)<;>cases hc
 rename_i h1 h2
 exact ⟨_,_,_,rfl,rfl,h1,h2⟩
theorem NG {code:Code} {id:Nat} {x:cy} (hc:comp C nt.n code=some (.block id x)):∃ p,code=.block id p∧comp C nt.n p=some x:=by
 cases code<;>simp only [comp] at hc<;>(repeat' split at hc)<;>cases hc
 rename_i h1
 exact ⟨_,rfl,h1⟩
theorem NH {code:Code} {x:cy} (hc:comp C nt.n code=some (.loop x)):∃ p,code=.loop p∧comp C nt.n p=some x:=by
 cases code<;>simp only [comp] at hc<;>(repeat' split at hc)<;>cases hc
 rename_i h1
 exact ⟨_,rfl,h1⟩
theorem NI {code:Code} {x:cy} (hc:comp C nt.n code=some (.scope x)):∃ p,code=.scope p∧comp C nt.n p=some x:=by
 cases code<;>simp only [comp] at hc<;>(repeat' split at hc)<;>cases hc
 rename_i h1
 exact ⟨_,rfl,h1⟩
theorem Ww {code:Code} {d:Bool} {ord:List Nat} {items:List aQ} (hc:comp C nt.n code=some (.region d ord items none)):∃ id ops,code=.region id ops d∧aM (xB C nt.n ops) ops.toList=some items ∧
  (d=true→C.P.follows .mixedOrders=true∧ord=(Region.before ops).toList∧vP ops ord=true):=by
 cases code
 case region id ops draw=>
  simp only [comp] at hc
  split at hc
  ·rename_i its pL
   cases draw with
   | true=>
    simp only [if_true] at hc
    split at hc
    ·rename_i bD
     simp only [ui] at bD
     simp only [Option.some.injEq,cy.region.injEq,and_true] at hc
     obtain ⟨rfl,rfl,rfl⟩:=hc
     exact ⟨id,ops,rfl,pL,fun _=>⟨bD.1,rfl,bD.2⟩⟩
    ·cases hc
   | false=>
    simp only [uk,if_false,Option.some.injEq,cy.region.injEq,and_true] at hc
    obtain ⟨rfl,rfl,rfl⟩:=hc
    exact ⟨id,ops,rfl,pL,fun h=>by cases h⟩
  ·cases hc
 all_goals (simp only [comp] at hc;(repeat' split at hc)<;>cases hc)
def vR (next:St→Prop) (K:Exit→St→Prop):Exit→St→Prop
 | .normal,st=>next st
 | e,st=>K e st
theorem qL {x y:cy} {K:Exit→St→Prop} (h:cG C nt x (vR (cG C nt y K) K) st):cG C nt (.seq x y) K st:=by
 intro code hc g a w R hI
 obtain ⟨p,q,rfl,h1,h2⟩:=NE hc
 refine wpIn_seq (Code.wpIn_mono ?_ (h p h1 g a w R hI))
 rintro e a' w' ⟨aY,g',hk,R',E⟩
 cases e with
 | normal=>
  refine Code.wpIn_mono ?_ (hk q h2 g' a' w' R' (hI.eO E))
  rintro e a'' w'' ⟨Dg,g'',hk',NJ,E'⟩
  exact ⟨Dg,g'',hk',NJ,E.trans E'⟩
 | _=>exact ⟨aY,g',hk,R',E⟩
theorem xC {c:aZ} {x y:cy} {K:Exit→St→Prop} (b:Bool) (hb:zd st.env c=.ax (.bool b)) (ht:b=true→cG C nt x K st) (hf:b=false→cG C nt y K st) :
  cG C nt (.cond c x y) K st:=by
 intro code hc g a w R hI
 obtain ⟨c',p,q,rfl,rfl,h1,h2⟩:=NF hc
 have hv:=Zv R c'
 rw [hb] at hv
 refine wpIn_cond_split (vt hv) (fun h=>ht h p h1 g a w R hI) (fun h=>hf h q h2 g a w R hI)
def xS (id:Nat) (K:Exit→St→Prop):Exit→St→Prop
 | .exit id',st=>if id'=id then K .normal st else K (.exit id') st
 | e,st=>K e st
theorem Z7 {id:Nat} {x:cy} {K:Exit→St→Prop} (h:cG C nt x (xS id K) st):cG C nt (.block id x) K st:=by
 intro code hc g a w R hI
 obtain ⟨p,rfl,h1⟩:=NG hc
 refine wpIn_block (Code.wpIn_mono ?_ (h p h1 g a w R hI))
 rintro e a' w' ⟨aY,g',hk,R',E⟩
 cases e with
 | exit id'=>
  simp only [Exit.inBlock,xS] at hk ⊢
  split
  ·rename_i e;rw [if_pos e] at hk;exact ⟨aY,g',hk,R',E⟩
  ·rename_i e;rw [if_neg e] at hk;exact ⟨aY,g',hk,R',E⟩
 | _=>exact ⟨aY,g',hk,R',E⟩
def QC (K:Exit→St→Prop):Exit→St→Prop
 | .goto _,_=>False
 | e,st=>K e st
theorem KL (hro:C.ro=none) {x:cy} {K:Exit→St→Prop} (h:cG C nt x (QC K) st):cG C nt (.scope x) K st:=by
 intro code hc g a w R hI
 obtain ⟨p,rfl,h1⟩:=NI hc
 have h2:=h p h1 g a w R hI
 rw [hro] at h2 ⊢
 refine wpIn_wide.2 (wp_scope_straight (Code.wp_mono ?_ (wpIn_wide.1 h2)))
 rintro e a' w' ⟨aY,g',hk,R',E⟩
 cases e with
 | goto l=>exact hk.elim
 | _=>exact ⟨aY,g',hk,R',E⟩
theorem WQ {id:Nat} {K:Exit→St→Prop} (h:K (.exit id) st):cG C nt (.exit id) K st:=by
 intro code hc g a w R hI
 simp only [cy.erase] at hc
 cases code<;>simp only [comp] at hc<;>(repeat' split at hc)<;>cases hc
 exact wpIn_exit ⟨st,g,h,R,dB.refl _ _ _⟩
theorem YQ {K:Exit→St→Prop} (h:K .ret st):cG C nt .ret K st:=by
 intro code hc g a w R hI
 simp only [cy.erase] at hc
 cases code<;>simp only [comp] at hc<;>(repeat' split at hc)<;>cases hc
 exact wpIn_ret ⟨st,g,h,R,dB.refl _ _ _⟩
theorem VD {ord:List Nat} {items:List aQ} {ks:Option (List Nat)} {K:Exit→St→Prop} (h:Ar C items (fun aY=>K .normal (aY.keep ks)) st):cG C nt (.region false ord items ks) K st:=by
 intro code hc g a w R hI
 obtain ⟨id,ops,rfl,hm,_⟩:=Ww hc
 have:=ND (C:=C) (nt:=nt) (ops:=ops) (K:=fun e aY=>K e (aY.keep ks)) (g0:=g) (cK:=st) (w0:=w) ops.toList items hm st g a w h R hI (dB.refl _ _ _)
 refine Code.wpIn_mono ?_ (wpIn_region_list this)
 rintro e a' w' ⟨aY,g',hk,R',E⟩
 exact ⟨aY.keep ks,g',hk,R'.keep ks,by cases ks<;>exact E⟩
def bS (st aY:St):Prop:=∀ (C:Ctx) (nt:Fr) (g:Gh) (a:Act) (w:World),Rel C nt g st a w →
 ∃ g',Rel C nt g' aY a w∧∀ g0 cK w0,cK.next≤aY.next→dB g0 cK w0 g st w→dB g0 cK w0 g' aY w
theorem bS.refl (st:St):bS st st:=fun _ _ g _ _ R=>⟨g,R,fun _ _ _ _ E=>E⟩
theorem bB.inv.cA {g1:Gh} {nU:St} (h:C.inv g st w) (hE:∀ g0 cK w0,cK.next≤nU.next→dB g0 cK w0 g st w→dB g0 cK w0 g1 nU w) (hn:st.next≤nU.next):C.inv g1 nU w:=by
 unfold bB.inv at *
 split
 ·trivial
 ·rename_i g0 cK w0 e
  rw [e] at h
  refine hE g0 cK w0 ?_ h
  rcases ul cK.next with h0 | h0
  ·omega
  ·have h1:cK.next - 1 < st.next:=bW.next h (cK.next - 1) (by show cK.next - 1 < cK.next;omega)
   omega
theorem Zw {ac:cy} {K:Exit→St→Prop} {nU:St} (hw:bS st nU) (hn:st.next≤nU.next) (h:cG C nt ac K nU):cG C nt ac K st:=by
 intro code hc g a w R hI
 obtain ⟨g1,R1,hE⟩:=hw C nt g a w R
 have E1:=hE g st w hn (dB.refl _ _ _)
 refine Code.wpIn_mono ?_ (h code hc g1 a w R1 (hI.cA hE hn))
 rintro e a' w' ⟨aY,g',hk,R',E⟩
 exact ⟨aY,g',hk,R',E1.trans E⟩
theorem WR {ι:Type} {x:cy} {K:Exit→St→Prop} (S:ι→St) (μ:ι→Nat) (i0:ι) (hn:∀ i,(S i0).next≤(S i).next) (h0:bS st (S i0)) (hn0:st.next≤(S i0).next)
  (round:∀ i,cG C nt x (vR (fun aY=>∃ j,μ j < μ i∧bS aY (S j)) K) (S i)):cG C nt (.loop x) K st:=by
 refine Zw h0 hn0 ?_
 intro code hc g a w R hI
 obtain ⟨p,rfl,h1⟩:=NH hc
 refine VB (fun n a' w'=>∃ i g',n=μ i∧Rel C nt g' (S i) a' w'∧dB g (S i0) w g' (S i) w') (μ i0) ⟨i0,g,rfl,R,dB.refl _ _ _⟩ ?_
 rintro n a1 w1 ⟨i,g1,rfl,R1,E1⟩
 refine Code.wpIn_mono ?_ (round i p h1 g1 a1 w1 R1 (hI.eO E1))
 rintro e a' w' ⟨aY,g',hk,R',E'⟩
 cases e with
 | normal=>
  obtain ⟨j,hlt,Au⟩:=hk
  obtain ⟨g2,R2,Dh⟩:=Au C nt g' a' w' R'
  exact ⟨μ j,hlt,j,g2,rfl,R2,Dh g (S i0) w (hn j) (E1.trans E')⟩
 | _=>exact ⟨aY,g',hk,R',E1.trans E'⟩
end
end
section
section
variable {C:Ctx} {nt:Fr} {g g':Gh} {h h':Nat→Option aG} {N N':Nat→Prop} {st aY:St} {a:Act} {w w':World}
theorem YR (R:RH C g h N w) (Z':Nat→Nat) (hZ:∀ b,g.Z b≤Z' b) (hO:∀ i b sz af,g.ρ i=some b→h i=some (.af sz af)→af.length*sz≤Z' b) (hM:∀ i b es,g.ρ i=some b→h i=some (.map es)→0 < Z' b) :
  ∀ (d:Nat) (x:AV) (v:Value) (y:IV),zE h d x=some y→RV C g h N w x v→RI Z' w y v:=by
 have up:∀ {y:IV} {v:Value},RI g.Z w y v→RI Z' w y v:=fun hr=>hr.mono hZ (iD.refl _ _)
 intro d
 induction d with
 | zero=>intro x v y hx;simp [zE] at hx
 | succ d ih=>
  intro x v y hx hv
  cases hv with
  | ax z _ hr=>simp [zE] at hx;subst hx;exact up hr
  | nil=>simp [zE] at hx;subst hx;exact .nil
  | cw a cap=>simp [zE] at hx;subst hx;exact yl
  | aU i af _ hr _ _=>simp [zE] at hx;subst hx;exact up hr
  | agg cs vs hl h1 hr=>
   simp only [zE,ub] at hx
   obtain ⟨out,hout,rfl⟩:=hx
   obtain ⟨h2,h3⟩:=qi hout
   refine .agg out vs (by rw [h2];exact hl) h1 fun i c u hc hu => ?_
   have hlt:i < cs.length:=by rw [←h2];exact (ua.1 hc).1
   obtain ⟨c',h4,h5⟩:=h3 i cs[i] (by simp)
   rw [hc] at h4
   cases h4
   exact ih _ _ _ h5 (hr i cs[i] u (by simp) hu)
  | tuple cs vs hl hr=>
   simp only [zE,ub] at hx
   obtain ⟨out,hout,rfl⟩:=hx
   obtain ⟨h2,h3⟩:=qi hout
   refine .tuple out vs (by rw [h2];exact hl) fun i c u hc hu => ?_
   have hlt:i < cs.length:=by rw [←h2];exact (ua.1 hc).1
   obtain ⟨c',h4,h5⟩:=h3 i cs[i] (by simp)
   rw [hc] at h4
   cases h4
   exact ih _ _ _ h5 (hr i cs[i] u (by simp) hu)
  | Zak i off len _ hni hone hp=>
   simp only [zE] at hx
   split at hx
   ·rename_i sz af cF
    split at hx
    ·rename_i hle
     rw [ub] at hx
     obtain ⟨out,hout,rfl⟩:=hx
     obtain ⟨h2,h3⟩:=qi hout
     have lf:((af.drop off).take len).length=len:=by simp;omega
     have o7:out.length=len:=by rw [h2,lf]
     obtain ⟨_,h5⟩:=hp sz af cF
     rcases h5 with ⟨hn,hr,hval⟩ | ⟨b,cap,c,e,hb,hval,hle2,hw,hcap⟩
     ·subst hr
      have:len=0:=by simp at hle;omega
      have ho:out=[]:=List.eq_nil_of_length_eq_zero (by omega)
      subst ho
      rw [hval]
      exact .nil
     ·obtain ⟨hz,c',e',ia,hlen,hcells⟩:=R.obj i b _ hb cF
      have key:∀ (i':Nat) (row:List IV) (j:Nat) (x:IV),out[i']?=some row→row[j]?=some x→∃ u,c'[(off+i')*sz+j]?=some u∧u.oneCell'=true∧RI Z' w x u∧i' < len∧row.length=sz∧j < sz:=fun i' row j x hi hj=>by
       have hi':i' < len:=by rw [←o7];exact (ua.1 hi).1
       have gF:((af.drop off).take len)[i']?=some (af[off+i']'(by omega)):=by
        rw [uw hi',uG];simp
       obtain ⟨row',ct,bZ⟩:=h3 i' _ gF
       rw [hi] at ct
       cases ct
       obtain ⟨og,ol⟩:=qi bZ
       have hj':j < (af[off+i']'(by omega)).length:=by rw [←og];exact (ua.1 hj).1
       obtain ⟨x',hx1,hx2⟩:=ol j ((af[off+i']'(by omega))[j]) (uh hj')
       rw [hj] at hx1
       cases hx1
       have hrow:af[off+i']?=some (af[off+i']'(by omega)):=by simp
       obtain ⟨cv,h6,h7,h8⟩:=hcells (off+i') _ j _ hrow (uh hj')
       have hsz:=hlen (off+i') _ hrow
       exact ⟨cv,h6,h7,ih _ _ _ hx2 h8,hi',by rw [og];exact hsz,by rw [←hsz];exact hj'⟩
      have pM:∀ (i':Nat) (row:List IV),out[i']?=some row→row.length=sz:=fun i' row hi=>by
       have hi':i' < len:=by rw [←o7];exact (ua.1 hi).1
       have gF:((af.drop off).take len)[i']?=some (af[off+i']'(by omega)):=by
        rw [uw hi',uG];simp
       obtain ⟨row',ct,bZ⟩:=h3 i' _ gF
       rw [hi] at ct
       cases ct
       rw [(qi bZ).1]
       exact hlen (off+i') _ (by simp)
      rw [hval,←o7]
      refine .slice out b (off*sz) cap sz (fun i' j=>c'.getD ((off+i')*sz+j) undef) (by omega) pM (fun i' row j x hi hj => ?_) (fun i' row j x hi hj => ?_) (fun i' row j x hi hj => ?_)
      ·obtain ⟨u,h6,h7,h8,h9,h10,h11⟩:=key i' row j x hi hj
       have nE:=hO i b sz af hb cF
       have:(off+i'+1)*sz≤af.length*sz:=Nat.mul_le_mul_right _ (by omega)
       simp only [uR] at this
       omega
      ·obtain ⟨u,h6,h7,h8,h9,h10,h11⟩:=key i' row j x hi hj
       have hu:c'.getD ((off+i')*sz+j) undef=u:=by
        have hlt:(off+i')*sz+j < c'.size:=(ud.1 h6).1
        simp [hlt] at h6 ⊢
        exact h6
       rw [hu,qB ia]
       refine ⟨?_,h7⟩
       rw [←h6]
       congr 1
       rw [uR]
      ·obtain ⟨u,h6,h7,h8,h9,h10,h11⟩:=key i' row j x hi hj
       have hu:c'.getD ((off+i')*sz+j) undef=u:=by
        have hlt:(off+i')*sz+j < c'.size:=(ud.1 h6).1
        simp [hlt] at h6 ⊢
        exact h6
       rw [hu]
       exact h8
    ·cases hx
   ·cases hx
  | map i _ hni hone hp=>
   simp only [zE] at hx
   split at hx
   ·rename_i es cF
    rw [ub] at hx
    obtain ⟨out,hout,rfl⟩:=hx
    obtain ⟨h2,h3⟩:=qi hout
    obtain ⟨b,hb,hval⟩:=hp es cF
    obtain ⟨hz,bO,clock,hw,hl,hr⟩:=R.obj i b _ hb cF
    have key:∀ (j:Nat) (k x:IV),out[j]?=some (k,x)→∃ e,bO[j]?=some e∧IV.key k=some e.key∧RI Z' w x e.val:=fun j k x hj=>by
     have hlt:j < es.length:=by rw [←h2];exact (ua.1 hj).1
     obtain ⟨y,h4,h5⟩:=h3 j es[j] (uh hlt)
     rw [hj] at h4
     cases h4
     rw [ub] at h5
     obtain ⟨z,h6,h7⟩:=h5
     cases h7
     obtain ⟨e,e1,e2,e3⟩:=hr j es[j].1 es[j].2 (by rw [uh hlt])
     exact ⟨e,e1,e2,ih _ _ _ h6 e3⟩
    rw [hval]
    have ig:∀ (j:Nat) (e:MapEntry),bO[j]?=some e→(bO[j]?).getD {key:=undef,val:=undef,born:=0}=e:=fun j e h=>by rw [h];rfl
    refine .ff out b bO clock (fun j=>(bO[j]?).getD {key:=undef,val:=undef,born:=0}) (hM i b es hb cF) hw (by rw [hl.l,h2]) (fun j k x hj => ?_) (fun j k x hj => ?_)
    ·obtain ⟨e,e1,e2,e3⟩:=key j k x hj
     rw [ig j e e1]
     exact ⟨e1,e2⟩
    ·obtain ⟨e,e1,e2,e3⟩:=key j k x hj
     rw [ig j e e1]
     exact e3
   ·cases hx
  | _=>simp [zE] at hx
theorem FQ:∀ (d:Nat) (x:AV) (v:Value) (y:IV),xe d x=true→zE h d x=some y→RV C g h N w x v→RI g.Z w y v:=by
 intro d
 induction d with
 | zero=>intro x v y _ hx;simp [zE] at hx
 | succ d ih=>
  intro x v y hm hx hv
  cases hv with
  | ax z _ hr=>simp [zE] at hx;subst hx;exact hr
  | nil=>simp [zE] at hx;subst hx;exact .nil
  | cw a cap=>simp [zE] at hx;subst hx;exact yl
  | aU i af _ hr _ _=>simp [zE] at hx;subst hx;exact hr
  | agg cs vs hl h1 hr=>
   simp only [zE,ub] at hx
   simp only [xe] at hm
   obtain ⟨out,hout,rfl⟩:=hx
   obtain ⟨h2,h3⟩:=qi hout
   refine .agg out vs (by rw [h2];exact hl) h1 fun i c u hc hu => ?_
   have hlt:i < cs.length:=by rw [←h2];exact (ua.1 hc).1
   obtain ⟨c',h4,h5⟩:=h3 i cs[i] (by simp)
   rw [hc] at h4
   cases h4
   exact ih _ _ _ (ue.1 hm _ (uy hlt)) h5 (hr i cs[i] u (by simp) hu)
  | tuple cs vs hl hr=>
   simp only [zE,ub] at hx
   simp only [xe] at hm
   obtain ⟨out,hout,rfl⟩:=hx
   obtain ⟨h2,h3⟩:=qi hout
   refine .tuple out vs (by rw [h2];exact hl) fun i c u hc hu => ?_
   have hlt:i < cs.length:=by rw [←h2];exact (ua.1 hc).1
   obtain ⟨c',h4,h5⟩:=h3 i cs[i] (by simp)
   rw [hc] at h4
   cases h4
   exact ih _ _ _ (ue.1 hm _ (uy hlt)) h5 (hr i cs[i] u (by simp) hu)
  | Zak i off len _ hni hone hp=>simp [xe] at hm
  | map=>simp [xe] at hm
  | _=>simp [zE] at hx
theorem xw (R:RH C g h N w) {Z':Nat→Nat} (hB:Below w.heap.size w w') (hZ:∀ b,b < w.heap.size→Z' b=g.Z b):bW g h N w ⟨g.ρ,Z'⟩ h N w' where
 os:=hB.os
 tape:=hB.tape
 output:=hB.output
 size:=hB.size
 old:=fun b hb _=>⟨hB.block b hb,hZ b hb⟩
 own:=fun b hb=>.inl hb
 bY:=fun b=>by
  rcases uA b w.heap.size with hb | hb
  ·show g.Z b≤Z' b;rw [hZ b hb];exact uj _
  ·rcases ul (g.Z b) with h0 | h0
   ·omega
   ·have:=R.dX b h0;omega
 cell:=iD.heap fun b hz=>hB.block b (R.dX b hz)
 shape:=fun b c e hb=>⟨c,(hB.block b (z6 hb)).trans hb,rfl⟩
 next:=fun _ h=>h
 eb:=fun i b hb _ _ _ _=>.inl hb
 cE:=fun i hb _ _ _ _=>.inl hb
 af:=fun i _ sz af h=>⟨af,h,rfl⟩
 cR:=fun i _ sz len h=>⟨len,h,uj _⟩
 maps:=fun i _ es h=>⟨es,h⟩
 fB:=fun i _ ll RR s pe h=>⟨s,pe,h⟩
theorem yp (R:RH C g h N w) {Z':Nat→Nat} (hB:Below w.heap.size w w') (hZ:∀ b,b < w.heap.size→Z' b=g.Z b) (hlt:∀ b,0 < Z' b→b < w'.heap.size):RH C ⟨g.ρ,Z'⟩ h N w' where
 inj:=R.inj
 lt:=fun i b hb=>⟨ug (R.lt i b hb).1 hB.size,(R.lt i b hb).2⟩
 key:=R.key
 obj:=fun i b o hb ho=>(R.obj i b o hb ho).keep (xw R hB hZ) (hB.block b (R.lt i b hb).1) (hZ b (R.lt i b hb).1)
 cQ:=R.cQ
 dX:=hlt
 fix:=R.fix.eO (xw R hB hZ)
def xM:IV→Bool
 | .slice _ | .iface _ _ | .cY | .ff _=>false
 | .agg cs | .tuple cs=>cs.all fun c=>match c with | .bool _ | .int _ _ | .str _=>true | _=>false
 | _=>true
theorem FR {Z Z':Nat→Nat} {x:IV} {v:Value} (hf:xM x=true) (hr:RI Z w x v):RI Z' w' x v:=by
 have one:∀ {c:IV} {u:Value},(match c with | .bool _ | .int _ _ | .str _=>true | _=>false)=true→RI Z w c u→RI Z' w' c u:=fun {c u} hc hr=>by
  cases hr<;>first | exact .bool _ | exact .int _ _ | exact .str _ | (simp at hc)
 cases hr with
 | bool b=>exact .bool b
 | int k n=>exact .int k n
 | str s=>exact .str s
 | nil=>simp [xM] at hf
 | empty=>simp [xM] at hf
 | slice=>simp [xM] at hf
 | iface=>simp [xM] at hf
 | cY=>simp [xM] at hf
 | ff=>simp [xM] at hf
 | agg cs vs hl h1 hr=>exact .agg cs vs hl h1 fun i c u hc hu=>one (ue.1 hf c (uc hc)) (hr i c u hc hu)
 | tuple cs vs hl hr=>exact .tuple cs vs hl fun i c u hc hu=>one (ue.1 hf c (uc hc)) (hr i c u hc hu)
theorem bF.pure {f:Nat} {args:List AV} {heap:List (Nat×aG)} {next d:Nat} {K:AV→List (Nat×aG)→Nat→Prop} {dy:List IV} {r:IV} (hp:aL C f dy r)
  (hm:(args.all (xe d))=true) (hx:aM (zE (za heap) d) args=some dy) (hK:K (.ax r) heap next):bF C f args heap next K:=by
 refine ⟨hp.1,fun g w vs R hv => ?_⟩
 obtain ⟨h1,h2⟩:=qi hx
 refine (hp.2 g.Z w vs R.dX ⟨R.fix.1,R.fix.2.1⟩ ⟨by rw [h1];exact hv.1,fun j c u hc hu => ?_⟩).mono ?_
 ·have hlt:j < args.length:=by rw [←h1];exact (ua.1 hc).1
  obtain ⟨c',h3,h4⟩:=h2 j args[j] (by simp)
  rw [hc] at h3
  cases h3
  exact FQ d _ _ _ (ue.1 hm _ (uy hlt)) h4 (hv.2 j args[j] u (by simp) hu)
 ·rintro e w' ⟨v,Z',rfl,hr,hZ,hlt,hB⟩
  exact ⟨v,.ax r,heap,next,⟨g.ρ,Z'⟩,rfl,hK,xw R hB hZ,yp R hB hZ hlt,.ax _ _ hr⟩
theorem bF.oy {f:Nat} {args:List AV} {heap:List (Nat×aG)} {next d:Nat} {K:AV→List (Nat×aG)→Nat→Prop} {dy:List IV} {r:IV} (hp:aL C f dy r)
  (hx:aM (zE (za heap) d) args=some dy) (hf:xM r=true) (hK:K (.ax r) heap next):bF C f args heap next K:=by
 refine ⟨hp.1,fun g w vs R hv => ?_⟩
 obtain ⟨h1,h2⟩:=qi hx
 let Z1:Nat→Nat:=fun b=>match w.heap[b]? with
  | some (.cells c _ _)=>max (g.Z b) c.size
  | some (.map _ _)=>max (g.Z b) 1
  | _=>g.Z b
 have iR:∀ b,g.Z b≤Z1 b:=fun b=>by
  show g.Z b≤(match w.heap[b]? with | some (.cells c _ _)=>max (g.Z b) c.size | some (.map _ _)=>max (g.Z b) 1 | _=>g.Z b)
  split
  ·exact ut _ _
  ·exact ut _ _
  ·exact uj _
 have sw:∀ b,0 < Z1 b→b < w.heap.size:=fun b hb=>by
  rcases uA b w.heap.size with h | h
  ·exact h
  ·have hn:w.heap[b]?=none:=uo h
   have:Z1 b=g.Z b:=by show (match w.heap[b]? with | some (.cells c _ _)=>max (g.Z b) c.size | some (.map _ _)=>max (g.Z b) 1 | _=>g.Z b)=g.Z b;rw [hn]
   exact R.dX b (by omega)
 have hO:∀ i b sz af,g.ρ i=some b→za heap i=some (.af sz af)→af.length*sz≤Z1 b:=fun i b sz af hb ho=>by
  obtain ⟨hz,c,e,hc,hlen,hcells⟩:=R.obj i b _ hb ho
  have hZ:Z1 b=max (g.Z b) c.size:=by show (match w.heap[b]? with | some (.cells c _ _)=>max (g.Z b) c.size | some (.map _ _)=>max (g.Z b) 1 | _=>g.Z b)=_;rw [hc]
  rw [hZ]
  refine uP ?_ (ur _ _)
  rcases ul (af.length*sz) with h0 | h0
  ·omega
  ·have hs:0 < sz:=um fun e=>by subst e;simp at h0
   have hr:0 < af.length:=um fun e=>by rw [e] at h0;simp at h0
   have hrow:af[af.length - 1]?=some (af[af.length - 1]'(by omega)):=by simp
   have hl:=hlen _ _ hrow
   obtain ⟨cv,h3,_⟩:=hcells (af.length - 1) _ (sz - 1) ((af[af.length - 1]'(by omega))[sz - 1]'(by omega)) hrow (by simp)
   have hlt:=(ud.1 h3).1
   have:(af.length - 1)*sz+sz=af.length*sz:=by
    rw [←uQ];congr 1;omega
   omega
 have hM:∀ i b es,g.ρ i=some b→za heap i=some (.map es)→0 < Z1 b:=fun i b es hb ho=>by
  obtain ⟨hz,bO,clock,hw,_⟩:=R.obj i b _ hb ho
  have hZ:Z1 b=max (g.Z b) 1:=by show (match w.heap[b]? with | some (.cells c _ _)=>max (g.Z b) c.size | some (.map _ _)=>max (g.Z b) 1 | _=>g.Z b)=_;rw [hw]
  rw [hZ]
  exact ug uL (ur _ _)
 refine (hp.2 Z1 w vs sw ⟨R.fix.1,R.fix.2.1⟩ ⟨by rw [h1];exact hv.1,fun j c u hc hu => ?_⟩).mono ?_
 ·have hlt:j < args.length:=by rw [←h1];exact (ua.1 hc).1
  obtain ⟨c',h3,h4⟩:=h2 j args[j] (by simp)
  rw [hc] at h3
  cases h3
  exact YR R Z1 iR hO hM d _ _ _ h4 (hv.2 j args[j] u (by simp) hu)
 ·rintro e w' ⟨v,Z',rfl,hr,hZ,hlt,hB⟩
  refine ⟨v,.ax r,heap,next,g,rfl,hK,xw (Z':=g.Z) R hB (fun _ _=>rfl),yp (Z':=g.Z) R hB (fun _ _=>rfl) (fun b hb=>ug (R.dX b hb) hB.size),.ax _ _ (FR hf hr)⟩
theorem bF.mono {f:Nat} {args:List AV} {heap:List (Nat×aG)} {next:Nat} {K K':AV→List (Nat×aG)→Nat→Prop} (hk:∀ r h n,K r h n→K' r h n) (hc:bF C f args heap next K):bF C f args heap next K':=
 ⟨hc.1,fun g w vs R hv=>(hc.2 g w vs R hv).mono fun e w' ⟨v,r,heap',next',g',h1,h2,h3⟩=>⟨v,r,heap',next',g',h1,hk _ _ _ h2,h3⟩⟩
end
end
section
def jm:Nat→List AV→List (Nat×AV)
 | _,[]=>[]
 | i,x::xs=>(i,x)::jm (i+1) xs
def wJ (st:St):dL→Option AV
 | .tmp t=>za st.env t
 | .cell t ag n=>match ai (.load ag n (.t t)) (zd st.env) (za st.heap) 0 with
  | some (r,_)=>some r
  | none=>none
def jD (rs:List dL) (st:St):Option AV:=match rs with
 | [r]=>wJ st r
 | rs=>match aM (wJ st) rs with
  | some xs=>some (.tuple xs)
  | none=>none
section
variable {C:Ctx} {nt:Fr} {g g':Gh} {h h':Nat→Option aG} {N N':Nat→Prop} {st aY:St} {a:Act} {w w':World}
theorem VE:∀ (args:List AV) (i t:Nat) (x:AV),za (jm i args) t=some x→i≤t∧args[t - i]?=some x
 | [],i,t,x,h=>by simp [jm,za] at h
 | y::ys,i,t,x,h=>by
  simp only [jm,za] at h
  split at h
  ·rename_i e;subst e;cases h;simp
  ·obtain ⟨h1,h2⟩:=VE ys (i+1) t x h
   refine ⟨by omega,?_⟩
   rw [show t - i=(t - (i+1))+1 by omega]
   simpa using h2
theorem NK (R:Rel C nt g st a w) {rv:ResultVar} {ar:dL} (hc:yn C rv=some ar) {x:AV} (hx:wJ st ar=some x) :
  ∃ v,((match rv with | .tmp t=>pure (a.tmps.getD t undef) | .cell ad t=>do loadVar t (←asAddr (a.tmps.getD ad undef)):Sem Value)).run C.P w=.ok v w∧RV C g (za st.heap) (· < st.next) w x v:=by
 cases rv with
 | tmp t=>
  simp only [yn,Option.some.injEq] at hc
  subst hc
  exact ⟨_,rfl,R.env.slot t x hx⟩
 | cell ad t=>
  simp only [yn] at hc
  split at hc
  ·rename_i ag n h1 h2
   cases hc
   simp only [wJ] at hx
   split at hx
   ·rename_i r aO he
    cases hx
    have hv:RV C g (za st.heap) (· < st.next) w (zd st.env (.t ad)) (a.tmps.getD ad undef):=Zv R (.tmp ad)
    obtain ⟨v,h3,_,h4⟩:=Kw h1 h2 R.heap hv he
    refine ⟨v,?_,h4⟩
    have Av:∃ p,a.tmps.getD ad undef=.pointer (some p):=by
     generalize a.tmps.getD ad undef=q at h3
     cases q with
     | pointer p=>
      cases p with
      | none=>simp [Instr.loadAt,Instr.sureAddr] at h3
      | some p=>exact ⟨p,rfl⟩
     | _=>simp [Instr.loadAt,Instr.sureAddr] at h3
    obtain ⟨p,hp⟩:=Av
    rw [hp] at h3
    show ((do loadVar t (←asAddr (a.tmps.getD ad undef)):Sem Value)).run C.P w=.ok v w
    rw [hp]
    simpa [Instr.loadAt,Instr.sureAddr,asAddr] using h3
   ·cases hx
  ·cases hc
theorem NL (R:Rel C nt g st a w) {fn:Func} {rs:List dL} (hc:aM (yn C) fn.results.toList=some rs) {x:AV} (hx:jD rs st=some x) :
  ∃ v,(results fn a.tmps).run C.P w=.ok v w∧RV C g (za st.heap) (· < st.next) w x v:=by
 obtain ⟨hl,hg⟩:=qi hc
 have many:∀ (l:List ResultVar) (rs:List dL) (xs:List AV),aM (yn C) l=some rs→aM (wJ st) rs=some xs →
   ∃ vs:List Value,(l.mapM (fun rv=>(match rv with | .tmp t=>pure (a.tmps.getD t undef) | .cell ad t=>do loadVar t (←asAddr (a.tmps.getD ad undef)):Sem Value))).run C.P w=.ok vs w∧vs.length=xs.length ∧
    ∀ (j:Nat) (y:AV) (u:Value),xs[j]?=some y→vs[j]?=some u→RV C g (za st.heap) (· < st.next) w y u:=by
  intro l
  induction l with
  | nil=>
   intro rs xs h1 h2
   simp [aM] at h1;subst h1
   simp [aM] at h2;subst h2
   exact ⟨[],by simp,rfl,fun j y u hj=>by simp at hj⟩
  | cons rv l ih=>
   intro rs xs h1 h2
   simp only [aM] at h1
   split at h1
   ·rename_i ar har
    split at h1
    ·rename_i rs' nF
     cases h1
     simp only [aM] at h2
     split at h2
     ·rename_i y hy
      split at h2
      ·rename_i ys hys
       cases h2
       obtain ⟨v,h3,h4⟩:=NK R har hy
       obtain ⟨vs,h5,h6,h7⟩:=ih rs' ys nF hys
       refine ⟨v::vs,?_,by simp [h6],fun j y' u hj hu => ?_⟩
       ·simp only [List.mapM_cons,Sem.run_bind,h3,Result.andThen_ok,h5,Sem.run_pure]
       ·cases j with
        | zero=>simp at hj hu;subst hj;subst hu;exact h4
        | succ j=>exact h7 j y' u (by simpa using hj) (by simpa using hu)
      ·cases h2
     ·cases h2
    ·cases h1
   ·cases h1
 have hrun:∀ vs:List Value,(fn.results.toList.mapM (fun rv=>(match rv with | .tmp t=>pure (a.tmps.getD t undef) | .cell ad t=>do loadVar t (←asAddr (a.tmps.getD ad undef)):Sem Value))).run C.P w=.ok vs w →
   (results fn a.tmps).run C.P w=.ok (if h:vs.toArray.size=1 then vs.toArray[0] else .tuple vs.toArray) w:=fun vs hvs=>by
  have key:∀ (F:ResultVar→Sem Value),(∀ rv,F rv=(match rv with | .tmp t=>pure (a.tmps.getD t undef) | .cell ad t=>do loadVar t (←asAddr (a.tmps.getD ad undef)):Sem Value))→(fn.results.toList.mapM F).run C.P w=.ok vs w:=fun F hF=>by
   rw [funext hF];exact hvs
  unfold results
  rw [Array.mapM_eq_mapM_toList]
  simp only [Sem.run_bind,Sem.run_map]
  rw [key _ (fun rv=>by cases rv<;>rfl)]
  rfl
 unfold jD at hx
 split at hx
 ·rename_i ar
  have h1:aM (wJ st) [ar]=some [x]:=by simp [aM,hx]
  obtain ⟨vs,h2,h3,h4⟩:=many fn.results.toList [ar] [x] hc h1
  obtain ⟨v,rfl⟩:=uB.1 h3
  exact ⟨v,by rw [hrun _ h2];rfl,h4 0 x v rfl rfl⟩
 ·rename_i hne
  split at hx
  ·rename_i xs hxs
   cases hx
   obtain ⟨vs,h2,h3,h4⟩:=many fn.results.toList rs xs hc hxs
   have hxl:=(qi hxs).1
   have hn1:¬ vs.toArray.size=1:=by
    intro hc1
    have:rs.length=1:=by rw [←hxl,←h3];simpa using hc1
    obtain ⟨ar,rfl⟩:=uB.1 this
    exact hne ar rfl
   exact ⟨.tuple vs.toArray,by rw [hrun _ h2,dif_neg hn1],.tuple xs vs h3.symm h4⟩
  ·cases hx
theorem Zx {f : Nat} {F : dz} (hF : qo C f = some F.erase) : ∃ fn code, C.P.funcs[C.ed f]? = some fn ∧ fn.body = some code ∧ (fn.name == "runtime.NumGoroutine") = false ∧ fn.ntmps = F.nt ∧
  comp C F.nt code=some F.body.erase∧aM (yn C) fn.results.toList=some F.results:=by
 unfold qo at hF
 split at hF
 ·rename_i fn hfn
  split at hF
  ·rename_i code lK
   split at hF
   ·rename_i ac rs hac rW
    split at hF
    ·cases hF
    ·rename_i hname
     simp only [Option.some.injEq,dz.erase,dz.mk.injEq] at hF
     obtain ⟨h1,h2,h3⟩:=hF
     subst h2
     subst h3
     exact ⟨fn,code,hfn,lK,by simpa using hname,h1,by rw [←h1];exact hac,rW⟩
   ·cases hF
  ·cases hF
 ·cases hF
def Di (F:dz) (K:AV→List (Nat×aG)→Nat→Prop):Exit→St→Prop:=fun e st=>(e=.ret∨e=.normal)∧∃ r,jD F.results st=some r∧K r st.heap st.next
structure iw (Ds:List Nat) (w w2:World):Prop where
 os:w2.os=w.os
 tape:w2.tape=w.tape
 output:w2.output=w.output
 size:w2.heap.size=w.heap.size
 keep:∀ b,b ∉ Ds→w2.heap[b]?=w.heap[b]?
 done:∀ D,D∈Ds→∃ x,w2.heap[D]?=some (.deferred x)
 was:∀ D,D∈Ds→∃ x,w.heap[D]?=some (.deferred x)
theorem iw.block {Ds:List Nat} {w w2:World} (S:iw Ds w w2) {b:Nat} {o:Obj} (h:w.heap[b]?=some o) (ho:∀ x,o≠.deferred x):w2.heap[b]?=some o:=by
 by_cases hb:b∈Ds
 ·obtain ⟨x,hx⟩:=S.was b hb
  rw [h] at hx;cases hx;exact absurd rfl (ho x)
 ·rw [S.keep b hb];exact h
theorem iw.cell {Ds:List Nat} {w w2:World} (S:iw Ds w w2) (p:Addr):w2.cell? p=w.cell? p:=by
 by_cases hb:p.block∈Ds
 ·obtain ⟨x,hx⟩:=S.was _ hb
  obtain ⟨y,hy⟩:=S.done _ hb
  simp only [World.cell?,hx,hy]
 ·simp only [World.cell?,S.keep _ hb]
theorem iw.Dj {Ds:List Nat} {w w2:World} (S:iw Ds w w2) (Z:Nat→Nat):iD Z w w2:=⟨fun b o _=>S.cell _,fun b bO clock _ hb=>(S.block hb (by simp)).trans hb.symm⟩
theorem RV.shut {Ds:List Nat} {w w2:World} (S:iw Ds w w2) {x:AV} {v:Value} (hv:RV C g h N w x v):RV C g h N w2 x v:=by
 induction hv with
 | top v=>exact .top v
 | undef=>exact .undef
 | ax x v hr=>exact .ax x v (hr.mono (fun _=>uj _) (S.Dj _))
 | nil=>exact .nil
 | cw a cap=>exact .cw a cap
 | aU id af v hr hid ht=>
  refine .aU id af v (hr.mono (fun _=>uj _) (S.Dj _)) hid fun sz len hg => ?_
  obtain ⟨h1,h2,h3⟩:=ht sz len hg
  refine ⟨h1,h2,fun e => ?_⟩
  rcases h3 e with h4 | ⟨b,cap,c,e',h5,h6,h7,h8⟩
  ·exact .inl h4
  ·exact .inr ⟨b,cap,c,e',h5,h6,S.block h7 (by simp),h8⟩
 | cz cells b off cv hz hc hr=>
  exact .cz cells b off cv hz (fun j c h1=>⟨(S.cell _).trans (hc j c h1).1,(hc j c h1).2⟩) (fun j c h1=>(hr j c h1).mono (fun _=>uj _) (S.Dj _))
 | ptr id row off v hid h1 hp=>exact .ptr id row off v hid h1 hp
 | Zak id off len v hid h1 hp=>
  refine .Zak id off len v hid h1 fun sz af hg => ?_
  obtain ⟨h2,h3⟩:=hp sz af hg
  refine ⟨h2,?_⟩
  rcases h3 with h4 | ⟨b,cap,c,e',h5,h6,h7,h8,h9⟩
  ·exact .inl h4
  ·exact .inr ⟨b,cap,c,e',h5,h6,h7,S.block h8 (by simp),h9⟩
 | func f first bp vf vc hlf hlc hf hc Ab CR=>exact .func f first bp vf vc hlf hlc Ab CR
 | map id v hid h1 hp=>exact .map id v hid h1 hp
 | agg cs vs hl h1 hr ih=>exact .agg cs vs hl h1 ih
 | tuple cs vs hl hr ih=>exact .tuple cs vs hl ih
 | eB l id hid hp=>exact .eB l id hid hp
theorem RH.shut {Ds:List Nat} {w w2:World} (S:iw Ds w w2) (F:C.tZ g w2) (R:RH C g h N w):RH C g h N w2 where
 inj:=R.inj
 lt:=fun i b hb=>⟨by rw [S.size];exact (R.lt i b hb).1,(R.lt i b hb).2⟩
 key:=R.key
 obj:=fun i b o hb ho=>by
  have H:=R.obj i b o hb ho
  cases o with
  | af sz af=>
   obtain ⟨h0,c,e,h1,h2,h3⟩:=H
   refine ⟨h0,c,e,S.block h1 (by simp),h2,fun i row j x hi hj => ?_⟩
   obtain ⟨cv,h4,h5,h6⟩:=h3 i row j x hi hj
   exact ⟨cv,h4,h5,h6.shut S⟩
  | aV sz len=>obtain ⟨c,e,h1,h2,h3⟩:=H;exact ⟨c,e,S.block h1 (by simp),h2,h3⟩
  | map es=>
   obtain ⟨h0,bO,clock,h1,h2,h3⟩:=H
   refine ⟨h0,bO,clock,S.block h1 (by simp),h2,fun i k x hi => ?_⟩
   obtain ⟨e,h4,h5,h6⟩:=h3 i k x hi
   exact ⟨e,h4,h5,h6.shut S⟩
  | dead=>trivial
  | lp l R s pe=>exact ⟨H.1,H.2.1,S.block H.2.2 (by simp)⟩
 cQ:=R.cQ
 dX:=fun b hb=>by rw [S.size];exact R.dX b hb
 fix:=F
theorem bW.shut {Ds:List Nat} {w0 w w2:World} (S:iw Ds w w2) (hD:∀ D∈Ds,w0.heap.size≤D) (E:bW g h N w0 g' h' N' w):bW g h N w0 g' h' N' w2 where
 os:=S.os.trans E.os
 tape:=S.tape.trans E.tape
 output:=S.output.trans E.output
 size:=by rw [S.size];exact E.size
 old:=fun b hb ho=>⟨(S.keep b (fun hm=>by have:=hD b hm;omega)).trans (E.old b hb ho).1,(E.old b hb ho).2⟩
 own:=E.own
 bY:=E.bY
 cell:=⟨fun b o ho=>(S.cell _).trans (E.cell.c b o ho),fun b bO clock hz hb=>by
  have h1:=E.cell.m b bO clock hz hb
  rw [hb] at h1 ⊢
  exact S.block h1 (by simp)⟩
 shape:=fun b c e hb=>by
  obtain ⟨c',h1,h2⟩:=E.shape b c e hb
  exact ⟨c',S.block h1 (by simp),h2⟩
 next:=E.next
 eb:=E.eb
 cE:=E.cE
 af:=E.af
 cR:=E.cR
 maps:=E.maps
 fB:=E.fB
theorem Xb {P:Program} {fn:Func} {tmps:Array Value} {R:Ending→World→Prop}:∀ (Ds:List Nat) (w:World),Ds.Nodup→(∀ D∈Ds,w.heap[D]?=some (.deferred (some []))) →
  (∀ w2,iw Ds w w2→∃ v,(results fn tmps).run P w2=.ok v w2∧R (.returned v) w2)→LeavesInM Fence.wide 0 P fn tmps R (Ds.map fun D=>{target:=.collected D,args := #[]}) .returning w
 | [],w,_,_,h=>h w ⟨rfl,rfl,rfl,rfl,fun _ _=>rfl,fun _ h=>(by cases h),fun _ h=>(by cases h)⟩
 | D::Ds,w,hn,hD,h=>by
  obtain ⟨n1,n2⟩:=List.nodup_cons.1 hn
  have h0:=hD D (by simp)
  have hlt:D < w.heap.size:=(ud.1 h0).1
  refine ⟨by simp,.inl ⟨D,w.putObj D (.deferred none),rfl,run_takeDeferred h0,?_⟩⟩
  have mZ:∀ E∈Ds,(w.putObj D (.deferred none)).heap[E]?=some (.deferred (some [])):=fun E hE=>by
   have hne:E≠D:=fun e=>n1 (by rw [←e];exact hE)
   rw [World.putObj_heap_other hne];exact hD E (by simp [hE])
  refine Xb Ds _ n2 mZ fun w2 S=>h w2 ⟨S.os,S.tape,S.output,by rw [S.size];simp,fun b hb => ?_,fun E hE => ?_,fun E hE=>⟨_,hD E hE⟩⟩
  ·simp only [ux,not_or] at hb
   rw [S.keep b hb.2,World.putObj_heap_other hb.1]
  ·by_cases hm:E∈Ds
   ·exact S.done E hm
   ·rcases ux.1 hE with rfl | hE
    ·exact ⟨none,by rw [S.keep _ hm];exact World.putObj_heap_same hlt⟩
    ·exact absurd hE hm
theorem Wx {C:bB} (hro:C.ro=none) {f:Nat} {F:dz} (hF:qo C f=some F.erase) {args:List AV} {heap:List (Nat×aG)} {next:Nat} {K:AV→List (Nat×aG)→Nat→Prop} (hn:args.length≤F.nt)
  (h:∀ B,cG C ⟨F.nt,B⟩ F.body (Di F K) {env:=jm 0 args,heap:=heap,next:=next}) {g:Gh} {w:World} {vs:List Value} (R:RH C g (za heap) (· < next) w) (hv:nG C g (za heap) (· < next) w args vs) (hI:C.inv g ⟨[],heap,next⟩ w) :
  Calls C.P (C.ed f) vs.toArray w fun e w'=>∃ v r heap' next' g',e=.returned v∧K r heap' next' ∧
   bW g (za heap) (· < next) w g' (za heap') (· < next') w'∧RH C g' (za heap') (· < next') w'∧RV C g' (za heap') (· < next') w' r v:=by
 obtain ⟨fn,code,hfn,lK,hname,hnt,hcomp,hres⟩:=Zx hF
 refine callsIn_wide.1 (callsIn_of_wp_marks (n:=0) hfn lK trivial ?_)
 have hsz:vs.length≤F.nt:=by rw [←hv.1];exact hn
 have R0:Rel C ⟨F.nt,w.heap.size⟩ g {env:=jm 0 args,heap:=heap,next:=next} {tmps:=vs.toArray++uC (fn.ntmps - vs.toArray.size) undef,defers:=[]} w:=by
  refine ⟨⟨by simp [hnt];omega,Marks.nil _ (uj _),fun t x hx => ?_⟩,R⟩
  obtain ⟨_,h2⟩:=VE args 0 t x hx
  simp only [uO] at h2
  have hlt:t < vs.length:=by rw [←hv.1];exact (ua.1 h2).1
  have cS:(vs.toArray++uC (fn.ntmps - vs.toArray.size) undef).getD t undef=vs[t]:=by
   simp [Array.getElem?_append,hlt]
  show RV C g (za heap) (· < next) w x ((vs.toArray++uC (fn.ntmps - vs.toArray.size) undef).getD t undef)
  rw [cS]
  exact hv.2 t x vs[t] h2 (by simp)
 have hb:=h w.heap.size code hcomp g _ w R0 hI
 rw [hro] at hb
 refine Code.wpIn_mono ?_ hb
 rintro e a' w' ⟨aY,g',⟨he,r,hr,hK⟩,R',E⟩
 have hD:=R'.env.defers
 obtain ⟨mj,Ds,iF,hd2,sx⟩:=hD
 have key:LeavesInM Fence.wide 0 C.P fn a'.tmps (fun e w'=>∃ v r heap' next' g',e=.returned v∧K r heap' next'∧bW g (za heap) (· < next) w g' (za heap') (· < next') w'∧RH C g' (za heap') (· < next') w'∧RV C g' (za heap') (· < next') w' r v) a'.defers .returning w':=by
  rw [iF]
  refine Xb Ds w' hd2 (fun D hD=>(sx D hD).2.1) fun w2 S => ?_
  have R2:Rel C ⟨F.nt,w.heap.size⟩ g' aY {a' with defers:=[]} w2:=⟨⟨R'.env.size,Marks.nil _ (by rw [S.size];exact mj),fun t x hx=>(R'.env.slot t x hx).shut S⟩,R'.heap.shut S (R.fix.eO (E.shut S (fun D hD=>(sx D hD).1)))⟩
  obtain ⟨v,h1,h2⟩:=NL R2 hres hr
  exact ⟨v,h1,v,r,aY.heap,aY.next,g',rfl,hK,E.shut S (fun D hD=>(sx D hD).1),R2.heap,h2⟩
 rcases he with rfl | rfl
 ·exact key
 ·exact key
theorem bF.enter {C:Ctx} {f:Nat} {F:dz} (hF:qo C f=some F.erase) {args:List AV} {heap:List (Nat×aG)} {next:Nat} {K:AV→List (Nat×aG)→Nat→Prop} (hn:args.length≤F.nt)
  (h:∀ B,cG C.plain ⟨F.nt,B⟩ F.body (Di F K) {env:=jm 0 args,heap:=heap,next:=next}):bF C f args heap next K:=by
 obtain ⟨fn,code,hfn,lK,hname,_⟩:=Zx hF
 exact ⟨⟨fn,hfn,by simp [lK],hname⟩,fun g w vs R hv=>Wx (C:=C.plain) rfl hF hn h R hv trivial⟩
theorem aL.of {f:Nat} {args:List IV} {r:IV} {d:Nat} (hc:bF C f (args.map .ax) [] 0 fun x heap _=>zE (za heap) d x=some r):aL C f args r:=by
 refine ⟨hc.1,fun Z w vs hz hf hv => ?_⟩
 have R:RH C ⟨fun _=>none,Z⟩ (za []) (· < 0) w:=⟨fun i j b h=>(by cases h),fun i b h=>(by cases h),fun i o h=>(by simp [za] at h),fun i b o h=>(by cases h),fun i sz len h=>(by simp [za] at h),hz,hf.1,hf.2,fun b hb ⟨i,hi⟩=>(by cases hi)⟩
 refine (hc.2 _ w vs R ⟨by simpa using hv.1,fun j x u hx hu => ?_⟩).mono ?_
 ·simp only [un,ub] at hx
  obtain ⟨y,hy,rfl⟩:=hx
  exact .ax _ _ (hv.2 j y u hy hu)
 ·rintro e w' ⟨v,x,heap',next',g',rfl,hK,E,R',hx⟩
  have ng:∀ b,¬ vL (⟨fun _=>none,Z⟩:Gh) b:=fun b ⟨i,hi⟩=>(by cases hi)
  let Z1:Nat→Nat:=fun b=>if b < w.heap.size then Z b else match w'.heap[b]? with
   | some (.cells c _ _)=>max (g'.Z b) c.size
   | some (.map _ _)=>max (g'.Z b) 1
   | _=>g'.Z b
  have iR:∀ b,g'.Z b≤Z1 b:=fun b=>by
   show g'.Z b≤(if b < w.heap.size then Z b else match w'.heap[b]? with | some (.cells c _ _)=>max (g'.Z b) c.size | some (.map _ _)=>max (g'.Z b) 1 | _=>g'.Z b)
   split
   ·rename_i hb;rw [(E.old b hb (ng b)).2];exact uj _
   ·split
    ·exact ut _ _
    ·exact ut _ _
    ·exact uj _
  have hO:∀ i b sz af,g'.ρ i=some b→za heap' i=some (.af sz af)→af.length*sz≤Z1 b:=fun i b sz af hb ho=>by
   obtain ⟨hz,c,e,hc,hlen,hcells⟩:=R'.obj i b _ hb ho
   have hnew:¬ b < w.heap.size:=by
    rcases E.own b ⟨i,hb⟩ with h | h
    ·exact absurd h (ng b)
    ·omega
   have hZ:Z1 b=max (g'.Z b) c.size:=by
    show (if b < w.heap.size then Z b else match w'.heap[b]? with | some (.cells c _ _)=>max (g'.Z b) c.size | some (.map _ _)=>max (g'.Z b) 1 | _=>g'.Z b)=_
    rw [if_neg hnew,hc]
   rw [hZ]
   refine uP ?_ (ur _ _)
   rcases ul (af.length*sz) with h0 | h0
   ·omega
   ·have hs:0 < sz:=um fun e=>by subst e;simp at h0
    have hr:0 < af.length:=um fun e=>by rw [e] at h0;simp at h0
    have hrow:af[af.length - 1]?=some (af[af.length - 1]'(by omega)):=by simp
    have hl:=hlen _ _ hrow
    obtain ⟨cv,h3,_⟩:=hcells (af.length - 1) _ (sz - 1) ((af[af.length - 1]'(by omega))[sz - 1]'(by omega)) hrow (by simp)
    have hlt:=(ud.1 h3).1
    have:(af.length - 1)*sz+sz=af.length*sz:=by
     rw [←uQ];congr 1;omega
    omega
  have hM:∀ i b es,g'.ρ i=some b→za heap' i=some (.map es)→0 < Z1 b:=fun i b es hb ho=>by
   obtain ⟨hz,bO,clock,hw,_⟩:=R'.obj i b _ hb ho
   have hnew:¬ b < w.heap.size:=by
    rcases E.own b ⟨i,hb⟩ with h | h
    ·exact absurd h (ng b)
    ·omega
   have hZ:Z1 b=max (g'.Z b) 1:=by
    show (if b < w.heap.size then Z b else match w'.heap[b]? with | some (.cells c _ _)=>max (g'.Z b) c.size | some (.map _ _)=>max (g'.Z b) 1 | _=>g'.Z b)=_
    rw [if_neg hnew,hw]
   rw [hZ]
   exact ug uL (ur _ _)
  refine ⟨v,Z1,rfl,YR R' Z1 iR hO hM d _ _ _ hK hx,fun b hb => ?_,fun b hb => ?_,⟨E.os,E.tape,E.output,E.size,fun k hk=>(E.old k hk (ng k)).1⟩⟩
  ·show (if b < w.heap.size then Z b else match w'.heap[b]? with | some (.cells c _ _)=>max (g'.Z b) c.size | some (.map _ _)=>max (g'.Z b) 1 | _=>g'.Z b)=Z b
   rw [if_pos hb]
  ·rcases uA b w'.heap.size with h | h
   ·exact h
   ·have hn:w'.heap[b]?=none:=uo h
    have hb':Z1 b=g'.Z b:=by
     show (if b < w.heap.size then Z b else match w'.heap[b]? with | some (.cells c _ _)=>max (g'.Z b) c.size | some (.map _ _)=>max (g'.Z b) 1 | _=>g'.Z b)=_
     have:=E.size
     rw [if_neg (by omega),hn]
    exact R'.dX b (by omega)
end
end
section
def zL (m:Nat):AV→Bool
 | .aU i _=>decide (i < m)
 | .ptr i _ _=>decide (i < m)
 | .Zak i _ _=>decide (i < m)
 | .map i=>decide (i < m)
 | .eB _ i=>decide (i < m)
 | .func _ _ _ | .agg _ | .tuple _=>false
 | _=>true
def xD (m:Nat):AV→Bool
 | .func _ first bp=>first.all (zL m)&&bp.all (zL m)
 | .agg cs=>cs.all (zL m)
 | .tuple cs=>cs.all (zL m)
 | x=>zL m x
def zR (m:Nat):AV→Bool
 | .tuple cs=>cs.all (xD m)
 | x=>xD m x
def zQ (m:Nat):aG→Prop
 | .af _ af=>∀ row∈af,∀ x∈row,zR m x=true
 | .aV _ _=>True
 | .map es=>∀ e∈es,zR m e.2=true
 | .dead=>True
 | .lp _ _ _ _=>True
section
variable {C:Ctx} {nt:Fr} {g g':Gh} {h h':Nat→Option aG} {N N':Nat→Prop} {st aY:St} {a:Act} {w w':World} {m:Nat}
def Gh.below (g:Gh) (m:Nat):Gh:=⟨fun i=>if i < m then g.ρ i else none,g.Z⟩
theorem RV.leaf (hh:∀ i o,h' i=some o→h i=some o) {x:AV} {v:Value} (hb:zL m x=true) (hv:RV C g h N w x v):RV C (g.below m) h' (· < m) w x v:=by
 cases hv with
 | top v=>exact .top v
 | undef=>exact .undef
 | ax x v hr=>exact .ax x v hr
 | nil=>exact .nil
 | cw a cap=>exact .cw a cap
 | eB l i hid hp=>
  have him:i < m:=by simpa [zL] using hb
  refine .eB l i him fun R s pe hg => ?_
  simp only [Gh.below,if_pos him]
  exact hp R s pe (hh i _ hg)
 | aU i af v hr hid ht=>
  have him:i < m:=by simpa [zL] using hb
  refine .aU i af v hr him fun sz len hg => ?_
  obtain ⟨h1,h2,h3⟩:=ht sz len (hh i _ hg)
  refine ⟨h1,h2,fun e => ?_⟩
  simp only [Gh.below,if_pos him]
  exact h3 e
 | cz cells b off cv hz hc hr=>exact .cz cells b off cv hz hc hr
 | ptr i row off v hid h1 hp=>
  have him:i < m:=by simpa [zL] using hb
  refine .ptr i row off v him h1 fun sz af hg => ?_
  simp only [Gh.below,if_pos him]
  exact hp sz af (hh i _ hg)
 | Zak i off len v hid h1 hp=>
  have him:i < m:=by simpa [zL] using hb
  refine .Zak i off len v him h1 fun sz af hg => ?_
  simp only [Gh.below,if_pos him]
  exact hp sz af (hh i _ hg)
 | map i v hid h1 hp=>
  have him:i < m:=by simpa [zL] using hb
  refine .map i v him h1 fun es hg => ?_
  simp only [Gh.below,if_pos him]
  exact hp es (hh i _ hg)
 | func=>simp [zL] at hb
 | agg=>simp [zL] at hb
 | tuple=>simp [zL] at hb
theorem RV.fO (hh:∀ i o,h' i=some o→h i=some o) {x:AV} {v:Value} (hb:xD m x=true) (hv:RV C g h N w x v):RV C (g.below m) h' (· < m) w x v:=by
 cases hv with
 | func f first bp vf vc hlf hlc hf hc=>
  simp only [xD,ui,ue] at hb
  exact .func f first bp vf vc hlf hlc (fun i c v h1 h2=>(hf i c v h1 h2).leaf hh (hb.1 c (uc h1))) (fun i c v h1 h2=>(hc i c v h1 h2).leaf hh (hb.2 c (uc h1)))
 | agg cs vs hl h1 hr=>
  simp only [xD,ue] at hb
  exact .agg cs vs hl h1 fun i c v h2 h3=>(hr i c v h2 h3).leaf hh (hb c (uc h2))
 | tuple cs vs hl hr=>
  simp only [xD,ue] at hb
  exact .tuple cs vs hl fun i c v h2 h3=>(hr i c v h2 h3).leaf hh (hb c (uc h2))
 | top v=>exact .top v
 | undef=>exact .undef
 | ax x v hr=>exact .ax x v hr
 | nil=>exact .nil
 | cw a cap=>exact .cw a cap
 | eB l i hid hp=>exact RV.leaf hh hb (.eB l i hid hp)
 | aU i af v hr hid ht=>exact RV.leaf hh hb (.aU i af v hr hid ht)
 | cz cells b off cv hz hc hr=>exact .cz cells b off cv hz hc hr
 | ptr i row off v hid h1 hp=>exact RV.leaf hh hb (.ptr i row off v hid h1 hp)
 | Zak i off len v hid h1 hp=>exact RV.leaf hh hb (.Zak i off len v hid h1 hp)
 | map i v hid h1 hp=>exact RV.leaf hh hb (.map i v hid h1 hp)
theorem RV.restrict (hh:∀ i o,h' i=some o→h i=some o) {x:AV} {v:Value} (hb:zR m x=true) (hv:RV C g h N w x v):RV C (g.below m) h' (· < m) w x v:=by
 cases hv with
 | tuple cs vs hl hr=>
  simp only [zR,ue] at hb
  exact .tuple cs vs hl fun i c v h2 h3=>(hr i c v h2 h3).fO hh (hb c (uc h2))
 | func f first bp vf vc hlf hlc hf hc=>exact RV.fO hh hb (.func f first bp vf vc hlf hlc hf hc)
 | agg cs vs hl h1 hr=>exact RV.fO hh hb (.agg cs vs hl h1 hr)
 | top v=>exact .top v
 | undef=>exact .undef
 | ax x v hr=>exact .ax x v hr
 | nil=>exact .nil
 | cw a cap=>exact .cw a cap
 | eB l i hid hp=>exact RV.leaf hh hb (.eB l i hid hp)
 | aU i af v hr hid ht=>exact RV.leaf hh hb (.aU i af v hr hid ht)
 | cz cells b off cv hz hc hr=>exact .cz cells b off cv hz hc hr
 | ptr i row off v hid h1 hp=>exact RV.leaf hh hb (.ptr i row off v hid h1 hp)
 | Zak i off len v hid h1 hp=>exact RV.leaf hh hb (.Zak i off len v hid h1 hp)
 | map i v hid h1 hp=>exact RV.leaf hh hb (.map i v hid h1 hp)
theorem RH.restrict (R:RH C g h N w) (hN:∀ i,i < m→N i∨h' i=none) (hh:∀ i o,h' i=some o→h i=some o∧i < m∧zQ m o):RH C (g.below m) h' (· < m) w:=by
 have ni:∀ i o,h' i=some o→h i=some o:=fun i o ho=>(hh i o ho).1
 have hr:∀ i b,(g.below m).ρ i=some b→i < m∧g.ρ i=some b:=fun i b hb=>by
  simp only [Gh.below] at hb
  split at hb
  ·rename_i him;exact ⟨him,hb⟩
  ·cases hb
 refine ⟨fun i j b hi hj=>R.inj i j b (hr i b hi).2 (hr j b hj).2,fun i b hb=>⟨(R.lt i b (hr i b hb).2).1,(hr i b hb).1⟩,fun i o ho=>(hh i o ho).2.1,fun i b o hb ho => ?_,fun i sz len ho hn => ?_,R.dX,R.fix.1,R.fix.2.1,fun b hb ⟨i,hi⟩=>R.fix.2.2 b hb ⟨i,(hr i b hi).2⟩⟩
 ·have H:=R.obj i b o (hr i b hb).2 (ni i o ho)
  have hbel:=(hh i o ho).2.2
  cases o with
  | af sz af=>
   obtain ⟨h0,c,e,h1,h2,h3⟩:=H
   refine ⟨h0,c,e,h1,h2,fun k row j x hk hj => ?_⟩
   obtain ⟨cv,h4,h5,h6⟩:=h3 k row j x hk hj
   exact ⟨cv,h4,h5,h6.restrict ni (hbel row (uc hk) x (uc hj))⟩
  | aV sz len=>exact H
  | dead=>trivial
  | lp l R s pe=>exact H
  | map es=>
   obtain ⟨h0,bO,clock,h1,h2,h3⟩:=H
   refine ⟨h0,bO,clock,h1,h2,fun k kk x hk => ?_⟩
   obtain ⟨e,h4,h5,h6⟩:=h3 k kk x hk
   exact ⟨e,h4,h5,h6.restrict ni (hbel (kk,x) (uc hk))⟩
 ·have him:=(hh i _ ho).2.1
  simp only [Gh.below,if_pos him] at hn
  exact R.cQ i sz len (ni i _ ho) hn
theorem jn {α:Type}:∀ {l:List (Nat×α)} {i:Nat} {x:α},za l i=some x→(i,x)∈l
 | [],i,x,h=>by simp [za] at h
 | (k,v)::r,i,x,h=>by
  simp only [za] at h
  split at h
  ·rename_i e;subst e;cases h;exact uv
  ·exact uE _ (jn h)
theorem XX {st aY:St} (hn:aY.next≤st.next) (he:∀ p∈aY.env,za st.env p.1=some p.2∧zR aY.next p.2=true)
  (hh:∀ p∈aY.heap,za st.heap p.1=some p.2∧p.1 < aY.next∧zQ aY.next p.2):bS st aY:=by
 intro C nt g a w R
 have Aw:∀ i o,za aY.heap i=some o→za st.heap i=some o∧i < aY.next∧zQ aY.next o:=fun i o ho=>hh (i,o) (jn ho)
 have ni:∀ i o,za aY.heap i=some o→za st.heap i=some o:=fun i o ho=>(Aw i o ho).1
 refine ⟨g.below aY.next,⟨⟨R.env.size,R.env.defers.sub (fun b ⟨i,hi⟩=>⟨i,by simp only [Gh.below] at hi;split at hi;exact hi;cases hi⟩),fun t x hx => ?_⟩,R.heap.restrict (fun i hi=>.inl (ug hi hn)) Aw⟩,fun g0 cK w0 hm E => ?_⟩
 ·obtain ⟨h1,h2⟩:=he (t,x) (jn hx)
  exact (R.env.slot t x h1).restrict ni h2
 ·have hr:∀ i,i < aY.next→(g.below aY.next).ρ i=g.ρ i:=fun i hi=>by simp only [Gh.below,if_pos hi]
  exact {
   os:=E.os
   tape:=E.tape
   output:=E.output
   size:=E.size
   old:=E.old
   own:=fun b ⟨i,hi⟩=>by
    simp only [Gh.below] at hi
    split at hi
    ·exact E.own b ⟨i,hi⟩
    ·cases hi
   bY:=E.bY
   cell:=E.cell
   shape:=E.shape
   next:=fun i hi=>ug hi hm
   eb:=fun i b hb o ho hnd hi=>by
    rw [hr i (ug hi hm)]
    exact E.eb i b hb o (ni i o ho) hnd hi
   cE:=fun i hb hi o ho hnd=>by
    rw [hr i (ug hi hm)]
    exact E.cE i hb hi o (ni i o ho) hnd
   af:=fun i hi sz af ho=>E.af i hi sz af (ni i _ ho)
   cR:=fun i hi sz len ho=>E.cR i hi sz len (ni i _ ho)
   maps:=fun i hi es ho=>E.maps i hi es (ni i _ ho)
   fB:=fun i hi ll RR s pe ho=>E.fB i hi ll RR s pe (ni i _ ho)}
theorem NM {st:St} {t sz:Nat} (ht:za st.env t=some .nil) :
  bS st {env:=zo st.env t (.aU st.next []),heap:=zy st.heap st.next (.aV sz 0),next:=st.next+1}:=by
 intro C nt g a w R
 obtain ⟨g',E,H,hv⟩:=J6 (id:=st.next) R.heap (Nat.lt_irrefl _) sz
 rw [xm] at E H hv
 have e1:bz [(st.next,aG.aV sz 0)] (za st.heap)=za (zy st.heap st.next (.aV sz 0)):=by
  funext i;simp only [bz,zA]
 rw [e1] at E H hv
 refine ⟨g',⟨⟨R.env.size,R.env.defers.eO E,fun t' x hx => ?_⟩,H⟩,fun g0 cK w0 hm E0=>E0.trans E⟩
 rw [zp] at hx
 split at hx
 ·rename_i e
  subst e
  cases hx
  have:=R.env.slot t _ ht
  rw [xl this]
  exact hv
 ·exact (R.env.slot t' x hx).mono E
end
end
structure Rec where
 dst:Option Nat
 r:AV
 aO:List (Nat×aG)
 rd:List Nat
 ex:List Nat
def vS (f:Nat→Option AV):Option Nat→AV→Nat→Option AV
 | none,_=>f
 | some d,x=>fun t=>if d=t then some x else f t
def qU:List Rec→(Nat→Bool)→Nat→(Nat→Option AV)→Nat→Option AV
 | [],_,_,f=>f
 | rc::rs,L,k,f=>qU rs L (k+1) (if L k then vS f rc.dst rc.r else f)
def qj:List Rec→(Nat→Bool)→Nat→(Nat→Option aG)→Nat→Option aG
 | [],_,_,h=>h
 | rc::rs,L,k,h=>qj rs L (k+1) (if L k then bz rc.aO h else h)
def zY (aO:List (Nat×aG)):List Nat:=aO.map (·.1)
theorem vv:∀ {aO:List (Nat×aG)} {h:Nat→Option aG} {i:Nat},i ∉ zY aO→bz aO h i=h i
 | [],_,_,_=>rfl
 | (k,o)::r,h,i,hi=>by
  simp only [zY,uN,ux,not_or] at hi
  simp only [bz]
  rw [if_neg (fun e=>hi.1 e.symm)]
  exact vv hi.2
theorem Dk:∀ {aO:List (Nat×aG)} {h h':Nat→Option aG} {i:Nat},i∈zY aO→bz aO h i=bz aO h' i
 | [],_,_,_,hi=>by simp [zY] at hi
 | (k,o)::r,h,h',i,hi=>by
  simp only [bz]
  split
  ·rfl
  ·rename_i e
   simp only [zY,uN,ux] at hi
   rcases hi with hi | hi
   ·exact absurd hi.symm e
   ·exact Dk hi
theorem wK {t:Nat}:∀ (recs:List Rec) (L1 L2:Nat→Bool) (k:Nat) (f1 f2:Nat→Option AV),(∀ (j:Nat) (rc:Rec),recs[j]?=some rc→rc.dst=some t→L1 (k+j)=L2 (k+j))→f1 t=f2 t →
  qU recs L1 k f1 t=qU recs L2 k f2 t
 | [],_,_,_,_,_,_,e=>e
 | rc::rs,L1,L2,k,f1,f2,hc,e=>by
  refine wK rs L1 L2 (k+1) _ _ (fun j tF hj hd=>by have:=hc (j+1) tF (by simpa using hj) hd;rwa [show k+(j+1)=k+1+j by omega] at this) ?_
  by_cases hd:rc.dst=some t
  ·have:=hc 0 rc rfl hd
   simp only [uq] at this
   rw [this]
   split
   ·simp [hd,vS]
   ·exact e
  ·have hp:∀ f:Nat→Option AV,vS f rc.dst rc.r t=f t:=fun f=>by
    cases hdd:rc.dst with
    | none=>rfl
    | some d=>simp only [vS];rw [if_neg (fun e=>hd (by rw [hdd,e]))]
   have h1:(if L1 k then vS f1 rc.dst rc.r else f1) t=f1 t:=by split<;>simp [hp]
   have h2:(if L2 k then vS f2 rc.dst rc.r else f2) t=f2 t:=by split<;>simp [hp]
   rw [h1,h2,e]
theorem yU {i:Nat}:∀ (recs:List Rec) (L1 L2:Nat→Bool) (k:Nat) (h1 h2:Nat→Option aG),(∀ (j:Nat) (rc:Rec),recs[j]?=some rc→i∈zY rc.aO→L1 (k+j)=L2 (k+j))→h1 i=h2 i →
  qj recs L1 k h1 i=qj recs L2 k h2 i
 | [],_,_,_,_,_,_,e=>e
 | rc::rs,L1,L2,k,h1,h2,hc,e=>by
  refine yU rs L1 L2 (k+1) _ _ (fun j tF hj hd=>by have:=hc (j+1) tF (by simpa using hj) hd;rwa [show k+(j+1)=k+1+j by omega] at this) ?_
  by_cases hd:i∈zY rc.aO
  ·have:=hc 0 rc rfl hd
   simp only [uq] at this
   rw [this]
   split
   ·exact Dk hd
   ·exact e
  ·have h3:(if L1 k then bz rc.aO h1 else h1) i=h1 i:=by split<;>simp [vv hd]
   have h4:(if L2 k then bz rc.aO h2 else h2) i=h2 i:=by split<;>simp [vv hd]
   rw [h3,h4,e]
def yq (L:Nat→Bool) (i:Nat):Nat→Bool:=fun k=>if k=i then true else L k
theorem xT (L:Nat→Bool) {i k:Nat} (h:k≠i):yq L i k=L k:=by simp only [yq];rw [if_neg h]
theorem Ze (L:Nat→Bool) (i:Nat):yq L i i=true:=by simp [yq]
theorem KM:∀ (recs:List Rec) (L:Nat→Bool) (k i:Nat) (rc:Rec) (f:Nat→Option AV) (t:Nat),recs[i]?=some rc→(∀ (j:Nat) (rj:Rec) (d:Nat),recs[j]?=some rj→j≠i→rc.dst=some d→rj.dst≠some d)→L (k+i)=false →
  qU recs (yq L (k+i)) k f t=vS (qU recs L k f) rc.dst rc.r t
 | [],L,k,i,rc,f,t,hi,_,_=>by simp at hi
 | r0::rs,L,k,0,rc,f,t,hi,hd,hL=>by
  simp at hi
  subst hi
  simp only [uq] at hL ⊢
  simp only [qU,Ze,if_true,hL,uk,if_false]
  cases eW:r0.dst with
  | none=>exact wK rs _ _ _ _ _ (fun j tF hj _=>xT _ (by omega)) rfl
  | some d=>
   simp only [vS]
   by_cases e:d=t
   ·subst e
    rw [if_pos rfl]
    have:∀ (rs:List Rec) (L:Nat→Bool) (k:Nat) (f:Nat→Option AV),(∀ (j:Nat) (rj:Rec),rs[j]?=some rj→rj.dst≠some d)→qU rs L k f d=f d:=by
     intro rs
     induction rs with
     | nil=>intro L k f _;rfl
     | cons r1 rs ih=>
      intro L k f hn
      simp only [qU]
      rw [ih _ _ _ (fun j rj hj=>hn (j+1) rj (by simpa using hj))]
      have h1:=hn 0 r1 rfl
      split
      ·cases iF:r1.dst with
       | none=>rfl
       | some d1=>simp only [vS];rw [if_neg (fun e=>h1 (by rw [iF,e]))]
      ·rfl
    rw [this _ _ _ _ (fun j rj hj=>hd (j+1) rj d (by simpa using hj) (by omega) eW)]
    simp
   ·rw [if_neg e]
    exact wK rs _ _ _ _ _ (fun j tF hj _=>xT _ (by omega)) (by simp [e])
 | r0::rs,L,k,i+1,rc,f,t,hi,hd,hL=>by
  simp only [qU]
  have hk:yq L (k+(i+1)) k=L k:=xT _ (by omega)
  rw [hk,show k+(i+1)=k+1+i by omega]
  exact KM rs L (k+1) i rc _ t (by simpa using hi) (fun j rj d hj hne=>hd (j+1) rj d (by simpa using hj) (by omega)) (by rw [show k+1+i=k+(i+1) by omega];exact hL)
theorem KN:∀ (recs:List Rec) (L:Nat→Bool) (k i:Nat) (rc:Rec) (h:Nat→Option aG) (x:Nat),recs[i]?=some rc →
  (∀ (j:Nat) (rj:Rec),recs[j]?=some rj→i < j→L (k+j)=true→∀ y,y∈zY rc.aO→y ∉ zY rj.aO)→L (k+i)=false →
  qj recs (yq L (k+i)) k h x=bz rc.aO (qj recs L k h) x
 | [],L,k,i,rc,h,x,hi,_,_=>by simp at hi
 | r0::rs,L,k,0,rc,h,x,hi,hd,hL=>by
  simp at hi
  subst hi
  simp only [uq] at hL ⊢
  simp only [qj,Ze,if_true,hL,uk,if_false]
  by_cases hx:x∈zY r0.aO
  ·have:∀ (rs:List Rec) (L':Nat→Bool) (k':Nat) (h':Nat→Option aG),(∀ (j:Nat) (rj:Rec),rs[j]?=some rj→L' (k'+j)=true→x ∉ zY rj.aO)→qj rs L' k' h' x=h' x:=by
    intro rs
    induction rs with
    | nil=>intro L' k' h' _;rfl
    | cons r1 rs ih=>
     intro L' k' h' hn
     simp only [qj]
     rw [ih _ _ _ (fun j rj hj hl=>hn (j+1) rj (by simpa using hj) (by rwa [show k'+(j+1)=k'+1+j by omega]))]
     split
     ·rename_i hl;exact vv (hn 0 r1 rfl (by simpa using hl))
     ·rfl
   rw [this _ _ _ _ (fun j rj hj hl=>by
    rw [xT _ (by omega)] at hl
    exact hd (j+1) rj (by simpa using hj) (by omega) (by rwa [show k+(j+1)=k+1+j by omega]) x hx)]
   exact Dk hx
  ·rw [vv hx]
   exact yU rs _ _ _ _ _ (fun j tF hj _=>xT _ (by omega)) (by simp [vv hx])
 | r0::rs,L,k,i+1,rc,h,x,hi,hd,hL=>by
  simp only [qj]
  have hk:yq L (k+(i+1)) k=L k:=xT _ (by omega)
  rw [hk,show k+(i+1)=k+1+i by omega]
  exact KN rs L (k+1) i rc _ x (by simpa using hi) (fun j rj hj hlt hl=>hd (j+1) rj (by simpa using hj) (by omega) (by rwa [show k+(j+1)=k+1+j by omega])) (by rw [show k+1+i=k+(i+1) by omega];exact hL)
def qN:AV→List Nat
 | .aU i _=>[i]
 | .ptr i _ _=>[i]
 | .Zak i _ _=>[i]
 | .map i=>[i]
 | _=>[]
def qb:cO→List aZ
 | .dR x | .box _ x | .load _ _ x | .nR _ x | .not x | .neg x | .conv _ x | .len x | .lens x | .lenm x | .ext x _ | .mks _ _ _ x=>[x]
 | .pick c a b=>[c,a,b]
 | .alloc _ _ | .eV=>[]
 | .build _ ps=>ps.map (·.2.2)
 | .cZ _ _ _ ps=>ps.map (·.2)
 | .store _ x v | .idx _ x v | .idxa _ _ x v | .bin _ x v | .oZ _ x v | .eqs _ _ x v | .mm _ x v | .eS _ x v | .app _ _ x v=>[x,v]
 | .pH _ a b=>a++b
 | .look _ _ _ m k=>[m,k]
 | .upd _ m k v=>[m,k,v]
 | .del _ m k=>[m,k]
 | .slc _ x lo hi=>[x]++lo.toList++hi.toList
 | .o3 x=>[x]
 | .BE _ x=>[x]
 | .eqnm _ x v=>[x,v]
 | .cut _ _ _ x=>[x]
 | .copy _ d x=>[d,x]
 | .ixa _ _ x i=>[x,i]
 | .call f args=>f::args
def wh (op:cO) (ev:aZ→AV):List Nat:=(qb op).flatMap fun x=>qN (ev x)
def zk (op:cO) (ev:aZ→AV):List Nat:=match op with
 | .dR _=>[]
 | op=>wh op ev
theorem NN {op:cO} {ev:aZ→AV} {h h':Nat→Option aG} {id:Nat} (ha:∀ i∈wh op ev,h' i=h i):ai op ev h' id=ai op ev h id:=by
 have ht:∀ x∈qb op,∀ i∈qN (ev x),h' i=h i:=fun x hx i hi=>ha i (by simp only [wh,List.mem_flatMap];exact ⟨x,hx,hi⟩)
 have hro:∀ x∈qb op,xK h' (ev x)=xK h (ev x):=fun x hx=>by
  unfold xK
  split<;>try rfl
  rename_i i off len e
  rw [ht x hx i (by rw [e];simp [qN])]
 have hlo:∀ x∈qb op,ww h' (ev x)=ww h (ev x):=fun x hx=>by
  unfold ww
  split<;>try rfl
  rename_i i off len e
  rw [ht x hx i (by rw [e];simp [qN])]
 have hme:∀ x∈qb op,xk h' (ev x)=xk h (ev x):=fun x hx=>by
  unfold xk
  split<;>try rfl
  rename_i i e
  rw [ht x hx i (by rw [e];simp [qN])]
 have hmn:∀ x∈qb op,vM h' (ev x)=vM h (ev x):=fun x hx=>by
  unfold vM
  split<;>try rfl
  rename_i i e
  rw [ht x hx i (by rw [e];simp [qN])]
 cases op with
 | eqnm neg x y=>simp only [ai,hmn x (by simp [qb])]
 | load ag n x=>
  simp only [ai]
  split<;>try rfl
  rename_i i r o e
  rw [ht x (by simp [qb]) i (by rw [e];simp [qN])]
 | store n x v=>
  simp only [ai]
  split<;>try rfl
  rename_i i r o cs e _
  rw [ht x (by simp [qb]) i (by rw [e];simp [qN])]
 | nR off x=>
  simp only [ai]
  split<;>try rfl
  rename_i i r o e
  rw [ht x (by simp [qb]) i (by rw [e];simp [qN])]
 | idx sz x i=>
  simp only [ai]
  split<;>try rfl
  split<;>try rfl
  rename_i j off len e
  rw [ht x (by simp [qb]) j (by rw [e];simp [qN])]
 | idxa n sz x i=>
  simp only [ai]
  split<;>try rfl
  rename_i k m j e1 e2
  rw [ht x (by simp [qb]) j (by rw [e2];simp [qN])]
 | len x=>simp only [ai,hlo x (by simp [qb])]
 | lenm x=>
  simp only [ai]
  split<;>try rfl
  rename_i i e
  rw [ht x (by simp [qb]) i (by rw [e];simp [qN])]
 | look s z ok m k=>simp only [ai,hme m (by simp [qb])]
 | upd s m k v=>
  simp only [ai]
  split<;>try rfl
  rename_i i kv e1 e2
  rw [ht m (by simp [qb]) i (by rw [e1];simp [qN])]
 | del s m k=>
  simp only [ai]
  split<;>try rfl
  rename_i i kv e1 e2
  rw [ht m (by simp [qb]) i (by rw [e1];simp [qN])]
 | o3 x=>
  simp only [ai]
  split<;>try rfl
  rename_i i r o e
  rw [ht x (by simp [qb]) i (by rw [e];simp [qN])]
 | copy sz d x=>
  have o8:jV h' (ev x)=jV h (ev x):=by
   unfold jV
   split
   ·rename_i i off len e
    rw [ht x (by simp [qb]) i (by rw [e];simp [qN])]
   ·rw [hro x (by simp [qb])]
  simp only [ai,BF,o8]
  split<;>try rfl
  rename_i i len e
  rw [ht d (by simp [qb]) i (by rw [e];simp [qN])]
 | app sz bG s x=>
  have o8:jV h' (ev x)=jV h (ev x):=by
   unfold jV
   split
   ·rename_i i off len e
    rw [ht x (by simp [qb]) i (by rw [e];simp [qN])]
   ·rw [hro x (by simp [qb])]
  simp only [ai]
  split
  ·rename_i i off len e
   have:=ht s (by simp [qb]) i (by rw [e];simp [qN])
   simp only [JX,o8,this]
  ·simp only [JW,hro x (by simp [qb])]
   split<;>try rfl
   split<;>try rfl
   split<;>try rfl
   rename_i i af e2
   rw [ht s (by simp [qb]) i (by rw [e2];simp [qN])]
 | _=>rfl
theorem NO {op:cO} {ev:aZ→AV} {h h':Nat→Option aG} {id:Nat} (ha:∀ i∈zk op ev,h' i=h i):ai op ev h' id=ai op ev h id:=by
 cases op with
 | dR x=>rfl
 | _=>exact NN ha
section
def xg (N:Nat→Prop) (l:List Nat):Nat→Prop:=fun i=>N i∨i∈l
theorem Xc (N:Nat→Prop):xg N []=N:=by funext i;simp [xg]
def dA (C:Ctx) (f:Nat) (args:List AV) (h0:Nat→Option aG) (rd:List Nat) (r:AV) (aO:List (Nat×aG)) (ex:List Nat):Prop:=yo C f ∧
 ∀ (g:Gh) (h:Nat→Option aG) (N:Nat→Prop) (w:World) (vs:List Value),(∀ i∈rd,h i=h0 i)→(∀ i∈ex,¬ N i)→RH C g h N w→nG C g h N w args vs →
  Calls C.P (C.ed f) vs.toArray w fun e w'=>∃ v g',e=.returned v∧bW g h N w g' (bz aO h) (xg N ex) w'∧RH C g' (bz aO h) (xg N ex) w'∧RV C g' (bz aO h) (xg N ex) w' r v
def nj (C:Ctx) (it:aQ) (st:St) (rc:Rec):Prop:=
 match qd st.env it.guard with
 | some false=>rc.r=.undef∧rc.aO=[]∧rc.ex=[]
 | some true=>match it.op with
  | .call f args=>match zd st.env f with
   | .func f' first bp=>dA C f' (first++args.map (zd st.env)++bp) (za st.heap) rc.rd rc.r rc.aO rc.ex
   | _=>False
  | op=>ai op (zd st.env) (za st.heap) st.next=some (rc.r,rc.aO)∧rc.rd=zk op (zd st.env)∧rc.ex=[]
 | none=>False
def Qu (C:Ctx):List aQ→St→List Rec→St→Prop
 | [],st,[],aY=>aY=st
 | it::its,st,rc::recs,aY=>rc.dst=it.dst∧nj C it st rc∧Qu C its (st.after it.dst rc.r rc.aO) recs aY
 | _,_,_,_=>False
def jS (a b:Rec):Bool:=(zY a.aO).any (fun i=>b.rd.contains i||(zY b.aO).contains i)||(zY b.aO).any (fun i=>a.rd.contains i)
def Jh (ord:List Nat) (recs:List Rec):Bool:=
 (uz recs.length).all fun j=>match recs[j]? with
  | some rj=>(zY rj.aO).isEmpty&&rj.rd.isEmpty||(uz j).all fun i=>match recs[i]? with
   | some ri=>ea ord i j || !jS ri rj
   | none=>true
  | none=>true
section
variable {C:Ctx} {nt:Fr} {g g':Gh} {st aY:St} {a:Act} {w w':World}
theorem Ji {ord:List Nat} {recs:List Rec} (hm:Jh ord recs=true) {i j:Nat} {ri rj:Rec} (hi:recs[i]?=some ri) (hj:recs[j]?=some rj) (hlt:i < j) (hc:jS ri rj=true):ea ord i j=true:=by
 unfold Jh at hm
 have hjl:j < recs.length:=(ua.1 hj).1
 have h1:=ue.1 hm j (by simp [hjl])
 simp only [hj,uu,ui,List.isEmpty_iff] at h1
 rcases h1 with ⟨h2,h3⟩ | h1
 ·simp [jS,h2,h3] at hc
 ·have h2:=ue.1 h1 i (by simp [hlt])
  simp only [hi,uu,uI] at h2
  rcases h2 with h2 | h2
  ·exact h2
  ·rw [hc] at h2;cases h2
theorem Jj:∀ {items:List aQ} {st:St} {recs:List Rec} {aY:St},Qu C items st recs aY→recs.length=items.length
 | [],_,[],_,_=>rfl
 | [],_,_::_,_,h=>h.elim
 | _::_,_,[],_,h=>h.elim
 | it::its,st,rc::recs,aY,h=>by simp [Jj h.2.2]
theorem Z8 (st:St) (dst:Option Nat) (r:AV) (aO:List (Nat×aG)):za (st.after dst r aO).env=vS (za st.env) dst r:=by
 cases dst with
 | none=>rfl
 | some d=>funext t;simp only [St.after,St.put,vS,zp]
theorem Zy (st:St) (dst:Option Nat) (r:AV) (aO:List (Nat×aG)):za (st.after dst r aO).heap=bz aO (za st.heap):=by
 cases dst<;>simp only [St.after,St.put,jK]
theorem VF (st:St) (dst:Option Nat) (r:AV) (aO:List (Nat×aG)):(st.after dst r aO).next=st.next+1:=by
 cases dst<;>rfl
theorem YS:∀ (items:List aQ) (st:St) (recs:List Rec) (aY:St) (k:Nat),Qu C items st recs aY→∀ (i:Nat) (it:aQ) (rc:Rec),items[i]?=some it→recs[i]?=some rc →
  ∃ fk,nj C it fk rc∧rc.dst=it.dst∧za fk.env=qU recs (fun j=>decide (j < k+i)) k (za st.env)∧za fk.heap=qj recs (fun j=>decide (j < k+i)) k (za st.heap)∧fk.next=st.next+i
 | [],_,[],_,_,_,i,it,rc,hi,_=>by simp at hi
 | [],_,_::_,_,_,h,_,_,_,_,_=>h.elim
 | _::_,_,[],_,_,h,_,_,_,_,_=>h.elim
 | FT::its,st,tG::recs,aY,k,⟨h1,h2,h3⟩,0,it,rc,hi,hr=>by
  simp at hi hr
  subst hi;subst hr
  refine ⟨st,h2,h1,?_,?_,rfl⟩
  ·funext t
   have:qU (tG::recs) (fun j=>decide (j < k+0)) k (za st.env) t=qU (tG::recs) (fun _=>false) k (za st.env) t:=wK _ _ _ _ _ _ (fun j rc _ _=>by simp) rfl
   rw [this]
   have:∀ (l:List Rec) (k:Nat) (f:Nat→Option AV),qU l (fun _=>false) k f=f:=by
    intro l
    induction l with
    | nil=>intro k f;rfl
    | cons r l ih=>intro k f;simp [qU,ih]
   rw [this]
  ·funext t
   have:qj (tG::recs) (fun j=>decide (j < k+0)) k (za st.heap) t=qj (tG::recs) (fun _=>false) k (za st.heap) t:=yU _ _ _ _ _ _ (fun j rc _ _=>by simp) rfl
   rw [this]
   have:∀ (l:List Rec) (k:Nat) (f:Nat→Option aG),qj l (fun _=>false) k f=f:=by
    intro l
    induction l with
    | nil=>intro k f;rfl
    | cons r l ih=>intro k f;simp [qj,ih]
   rw [this]
 | FT::its,st,tG::recs,aY,k,⟨h1,h2,h3⟩,i+1,it,rc,hi,hr=>by
  obtain ⟨fk,h4,h5,h6,h7,h8⟩:=YS its _ recs aY (k+1) h3 i it rc (by simpa using hi) (by simpa using hr)
  refine ⟨fk,h4,h5,?_,?_,by rw [h8,VF];omega⟩
  ·rw [h6,Z8,←h1]
   simp only [qU]
   rw [show k+1+i=k+(i+1) by omega]
   simp
  ·rw [h7,Zy]
   simp only [qj]
   rw [show k+1+i=k+(i+1) by omega]
   simp
theorem WS:∀ (items:List aQ) (st:St) (recs:List Rec) (aY:St) (k:Nat) (L:Nat→Bool),Qu C items st recs aY→(∀ j,j < items.length→L (k+j)=true) →
  za aY.env=qU recs L k (za st.env)∧za aY.heap=qj recs L k (za st.heap)∧aY.next=st.next+items.length
 | [],_,[],_,_,_,h,_=>by cases h;exact ⟨rfl,rfl,rfl⟩
 | [],_,_::_,_,_,_,h,_=>h.elim
 | _::_,_,[],_,_,_,h,_=>h.elim
 | FT::its,st,tG::recs,aY,k,L,⟨h1,h2,h3⟩,hL=>by
  obtain ⟨h4,h5,h6⟩:=WS its _ recs aY (k+1) L h3 (fun j hj=>by have:=hL (j+1) (by simp;omega);rwa [show k+(j+1)=k+1+j by omega] at this)
  have h0:=hL 0 (by simp)
  simp only [uq] at h0
  refine ⟨?_,?_,by rw [h6,VF];simp;omega⟩
  ·rw [h4,Z8,←h1];simp only [qU,h0,if_true]
  ·rw [h5,Zy];simp only [qj,h0,if_true]
theorem NP (acc:Array Nat) (i:Nat):∀ (l:List Edge) (s:Nat),(l.foldl (fun s e=>if Region.binds .any e then s ||| 2 ^ e.on ||| acc.getD e.on 0 else s) s).testBit i=true →
  s.testBit i=true∨∃ e∈l,Region.binds .any e=true∧(e.on=i∨(acc.getD e.on 0).testBit i=true):=by
 intro l
 induction l with
 | nil=>intro s h;exact .inl h
 | cons e l ih=>
  intro s h
  simp only [List.foldl_cons] at h
  rcases ih _ h with h1 | ⟨e',he',h1⟩
  ·split at h1
   ·rename_i hb
    simp only [Nat.testBit_or,uu,Nat.testBit_two_pow,decide_eq_true_eq] at h1
    rcases h1 with (h1 | h1) | h1
    ·exact .inl h1
    ·exact .inr ⟨e,uv,hb,.inl h1⟩
    ·exact .inr ⟨e,uv,hb,.inr h1⟩
   ·exact .inl h1
  ·exact .inr ⟨e',uE _ he',h1⟩
theorem NQ:∀ (l:List Oper) (acc:Array Nat),∃ R:Array Nat,R=l.foldl (fun acc o=>acc.push (o.after.foldl (fun s e=>if Region.binds .any e then s ||| 2 ^ e.on ||| acc.getD e.on 0 else s) 0)) acc ∧
  (∀ j,j < acc.size→R.getD j 0=acc.getD j 0) ∧
  ∀ (j:Nat) (o:Oper) (i:Nat),l[j]?=some o→(R.getD (acc.size+j) 0).testBit i=true→∃ e∈o.after,Region.binds .any e=true∧(e.on=i∨(R.getD e.on 0).testBit i=true):=by
 intro l
 induction l with
 | nil=>intro acc;exact ⟨acc,rfl,fun _ _=>rfl,fun j o i hj=>by simp at hj⟩
 | cons o l ih=>
  intro acc
  obtain ⟨R,h1,h2,h3⟩:=ih (acc.push (o.after.foldl (fun s e=>if Region.binds .any e then s ||| 2 ^ e.on ||| acc.getD e.on 0 else s) 0))
  refine ⟨R,h1,fun j hj => ?_,fun j o' i hj ht => ?_⟩
  ·rw [h2 j (by simp;omega)]
   have hne:j≠acc.size:=by omega
   simp [uF,hne]
  ·cases j with
   | zero=>
    simp at hj
    subst hj
    simp only [uq] at ht
    have hval:R.getD acc.size 0=o.after.foldl (fun s e=>if Region.binds .any e then s ||| 2 ^ e.on ||| acc.getD e.on 0 else s) 0:=by
     rw [h2 acc.size (by simp)];simp
    rw [hval,←uH] at ht
    rcases NP acc i _ 0 ht with h4 | ⟨e,he,hb,h4⟩
    ·simp at h4
    ·refine ⟨e,by simpa using he,hb,?_⟩
     rcases h4 with h4 | h4
     ·exact .inl h4
     ·refine .inr ?_
      rcases uA e.on acc.size with hlt | hge
      ·rw [h2 e.on (by simp;omega)]
       have hne:e.on≠acc.size:=by omega
       simpa [uF,hne] using h4
      ·simp [uo hge] at h4
   | succ j=>
    refine h3 j o' i (by simpa using hj) ?_
    rw [←ht]
    congr 2
    simp;omega
theorem NT {ops:Array Oper} {i j:Nat} {o:Oper} (hj:ops[j]?=some o) (hb:ea (Region.before ops).toList i j=true) :
  ∃ e∈o.after,Region.binds .any e=true∧(e.on=i∨ea (Region.before ops).toList i e.on=true):=by
 obtain ⟨R,h1,_,h3⟩:=NQ ops.toList #[]
 have hR:R=Region.before ops:=by rw [h1];unfold Region.before;rw [←uH]
 have ru:∀ k,(Region.before ops).toList.getD k 0=(Region.before ops).getD k 0:=fun k=>by simp [List.getD,Array.getD_eq_getD_getElem?]
 unfold ea at hb ⊢
 rw [ru] at hb
 obtain ⟨e,he,nV,h4⟩:=h3 j o i (by simpa using hj) (by rw [hR];simpa using hb)
 refine ⟨e,he,nV,?_⟩
 rcases h4 with h4 | h4
 ·exact .inl h4
 ·rw [hR] at h4;rw [ru];exact .inr h4
theorem Zz {ops:Array Oper} {ord:List Nat} (hd:vP ops ord=true) {i:Nat} {o:Oper} (hi:ops[i]?=some o) {e:Edge} (he:e∈o.after) (hb:Region.binds .any e=true):e.on < i:=by
 unfold vP at hd
 simp only [ui] at hd
 have hil:i < ops.size:=(ud.1 hi).1
 have h1:=ue.1 hd.1 i (by simp [hil])
 simp only [hi] at h1
 have h2:=Array.all_eq_true_iff_forall_mem.1 h1 e he
 simpa [hb] using h2
theorem Xd {ops:Array Oper} {ord:List Nat} (hd:vP ops ord=true) {i j:Nat} {oi oj:Oper} {d:Nat} (hi:ops[i]?=some oi) (hj:ops[j]?=some oj) (eW:oi.dst=some d) (hne:i≠j) :
  oj.dst≠some d∧(d∈oj.looksAt ops→if i < j then ea ord i j=true else ea ord j i=true):=by
 unfold vP at hd
 simp only [ui] at hd
 have hil:i < ops.size:=(ud.1 hi).1
 have hjl:j < ops.size:=(ud.1 hj).1
 have h1:=ue.1 hd.2 i (by simp [hil])
 simp only [hi,eW] at h1
 have h2:=ue.1 h1 j (by simp [hjl])
 simp only [hj,uu,beq_iff_eq,hne,false_or,ui,bne_iff_ne,ne_eq,uI] at h2
 refine ⟨h2.1,fun hm => ?_⟩
 rcases h2.2 with h3 | h3
 ·have:(oj.looksAt ops).contains d=true:=by simpa using hm
  rw [this] at h3;cases h3
 ·split
  ·rename_i hlt;simpa [hlt] using h3
  ·rename_i hlt;simpa [hlt] using h3
def VG (ops:Array Oper) (listed:Array Bool):Prop:=∀ (j:Nat) (o:Oper),ops[j]?=some o→listed.getD j false=true→∀ e∈o.after,Region.binds .any e=true→listed.getD e.on false=true
theorem VH {ops:Array Oper} {listed:Array Bool} (hd:vP ops (Region.before ops).toList=true) (hc:VG ops listed):∀ (j i:Nat) (o:Oper),ops[j]?=some o →
  (∀ e∈o.after,Region.binds .any e=true→listed.getD e.on false=true)→ea (Region.before ops).toList i j=true→listed.getD i false=true:=by
 intro j
 induction j using uK with
 | _ j ih=>
  intro i o hj ha hb
  obtain ⟨e,he,nV,h1⟩:=NT hj hb
  have hl:=ha e he nV
  rcases h1 with rfl | h1
  ·exact hl
  ·have hlt:=Zz hd hj he nV
   have hjl:j < ops.size:=(ud.1 hj).1
   have FU:ops[e.on]?=some (ops[e.on]'(by omega)):=by simp
   exact ih e.on hlt i _ FU (fun e' he' hb'=>hc e.on _ FU hl e' he' hb') h1
end
end
end Go.Proofs.YtgpojcfkanjabaaGreatDoor
