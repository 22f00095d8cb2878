/-
  Regions run by the kernel: what is not decided by reckoning (tests, lengths, elements, answers of calls) is told ahead ('Orc'), and what is told is asked for as a list of facts.
  Forgetting, and the end of a function, by the kernel.
  Slices that are nil or not; renaming; copies of slices (slices.Clone).
  A slice with an owner that is written no more may be taken for data.
  Loops whose states have names that are found on the way; slices of slices that grow.
  A slice with an owner that will only grow may be taken for one that grows.
  The abstract machine: ranges over functions. The iterator's code is run where the loop stands; its calls of yield run the loop's body.
-/
import Derived.Test.YtlpmnmbebkdocaaGreatDoorTB04
open List renaming getElem?_eq_some_iff → ua, getElem?_map → ub, replicate → ud, mem_cons → ue, map → uh, map_cons → ui, mem_of_getElem? → uj, getElem?_set → uk, all_eq_true → ul, mem_flatMap → un, eq_nil_of_length_eq_zero → uq, mem_append → ur, take_of_length_le → uw, drop_zero → uz, getElem?_take → uC, getElem?_drop → uD, length_map → uG, map_take → uH, map_map → uI
open Option renaming map_eq_some_iff → uc, map_some → uy
open Bool renaming false_eq_true → uB
open Nat renaming le_refl → ug, lt_irrefl → um, mul_le_mul_right → uo, lt_of_lt_of_le → ut, zero_add → uv, le_trans → ux, add_mul → uA, lt_succ_self → uE, zero_le → uF, blt → uJ
open Array renaming getElem?_eq_some_iff → uu
namespace Go.Proofs.YtlpmnmbebkdocaaGreatDoor
open Go.RowKit
set_option linter.unusedSimpArgs false
set_option linter.unusedVariables false
section
inductive eS where
 | g (b:Bool)
 | n (k:Int)
 | r (row:List IV)
 | v (x:IV)
 | w (ids:List Nat) (dA:List IV) (x:IV)
 | s (af:List (List IV))
 | k (row:Nat)
 | ar (row:List AV)
 | aw (row:List AV) (af:List (List AV))
 | m (n:Nat) (af:List (List AV))
 | a (af:List (List IV)) (n:Nat)
 | b (af:List (List AV)) (n:Nat)
 | c (l:List Nat) (m:Nat) (r:AV) (aN:List (Nat×aF)) (d:Nat)
 | l (x:AV) (b:Bool)
 | u (es:List (IV×AV))
def Gw (af:List (List IV)) (n:Int) (row:List IV):Prop:=0≤n∧af[n.toNat]?=some row
def AT (af:List (List IV)) (k:Int):Prop:=(af.length:Int)=k
def Gx (af:List (List IV)) (sz:Nat) (a b:Int) (r:List (List IV)):Prop:=0≤a∧a≤b∧b≤(af.length:Int)∧(af.all fun row=>row.length == sz)=true∧(af.take b.toNat).drop a.toNat=r
def Kc (op:BinOp) (a b r:IV):Prop:=yP op a b=some r
def Wl (n:Int) (off len row:Nat):Prop:=0≤n∧n < (len:Int)∧off+n.toNat=row
def Kd (af:List (List AV)) (r:Nat) (row:List AV):Prop:=af[r]?=some row
def Gy (af:List (List AV)) (r:Nat) (row new:List AV) (eb:List (List AV)):Prop:=af[r]?=some row∧af.set r new=eb
def Dq (n:Int) (bL:Nat) (zero:List AV) (k:Nat) (af:List (List AV)):Prop:=(0≤n∧n < 2 ^ 31∧n*bL≤140737488355328)∧n.toNat=k∧ud k zero=af
def Gz (sz:Nat) (af new eb:List (List AV)) (len:Nat):Prop:=len=af.length∧new.length=len∧(new.all fun row=>row.length == sz)=true∧new=eb
def Dr (sz bL:Nat) (old new af:List (List IV)) (len k:Nat):Prop:=(new.all fun row=>row.length == sz)=true∧old.length=len∧(len+new.length)*bL≤140737488355328∧old++new=af∧len+new.length=k
def OU (sz bL:Nat) (old new af:List (List AV)) (len k:Nat):Prop:=(new.all fun row=>row.length == sz)=true∧len=old.length∧(len+new.length)*bL≤140737488355328∧old++new=af∧len+new.length=k
def B0 (str:Bool) (zero:AV) (k:IV) (es:List (IV×AV)) (x:AV) (b:Bool):Prop:=(wU str k&&xK k es)=true∧((qt k es=some x∧b=true)∨(qt k es=none∧zero=x∧b=false))
def Dt (str:Bool) (k:IV) (v:AV) (es es':List (IV×AV)):Prop:=(wU str k&&xK k es)=true∧qO k v es=es'
def Du (str:Bool) (zero:AV) (k y:IV) (x:AV) (b:Bool):Prop:=∃ es,jx (fun _=>none) (.ak y)=some es∧B0 str zero k es x b
def GA (neg:Bool) (y r:IV):Prop:=∃ b,vN (fun _=>none) (.ak y)=some b∧r=.bool (if neg then !b else b)
def Dv (args:List AV) (bX:List (Nat×aF)) (dA:List IV):Prop:=aL (zD (za bX) 5) args=some dA
def OV (D:List Nat):bf→Bool
 | .t n=>D.contains n
 | .c _=>true
 | .m _ _=>false
abbrev xV:=Option (AV×List (Nat×aF)×List Nat×List eS×List Prop×Nat)
def jr (op:cP) (cq:List eS) (st:St):xV:=match ai op (zd st.env) (za st.heap) st.next with
 | some (r,aN)=>some (r,aN,zj op (zd st.env),cq,[],0)
 | none=>none
def GB (op:cP) (cq:List eS) (st:St) (lit:Bool) (a b:AV):AV→xV
 | .ak (.bool x)=>match lit with
  | true=>match x with
   | true=>some (a,[],zj op (zd st.env),cq,[],0)
   | false=>some (b,[],zj op (zd st.env),cq,[],0)
  | false=>match cq with
   | .g true::o=>some (a,[],zj op (zd st.env),o,[x=true],0)
   | .g false::o=>some (b,[],zj op (zd st.env),o,[x=false],0)
   | _=>none
 | _=>none
def GC (op:cP) (cq:List eS) (st:St):AV→xV
 | .ak (.slice af) | .aS _ af=>match cq with
  | .n k::o=>some (.ak (.int .i64 k),[],zj op (zd st.env),o,[AT af k],0)
  | _=>none
 | _=>jr op cq st
def GD (op:cP) (sz:Nat) (cq:List eS) (st:St) (i:AV):AV→xV
 | .ak (.slice af) | .aS _ af=>match i with
  | .ak (.int _ n)=>match cq with
   | .r row::o=>if row.length=sz then some (.cF row,[],zj op (zd st.env),o,[Gw af n row],0) else none
   | _=>none
  | _=>none
 | .Zai j off len=>match cq with
  | .k row::o=>match i with
   | .ak (.int _ n)=>match za st.heap j with
    | some (.af sz' _)=>if sz'=sz then some (.ptr j row 0,[],zj op (zd st.env),o,[Wl n off len row],0) else none
    | _=>none
   | _=>none
  | _=>jr op cq st
 | _=>jr op cq st
def GF (op:cP) (len sz:Nat) (cq:List eS) (st:St) (i x:AV):xV:=match cq with
 | .k row::o=>match x with
  | .ptr j 0 0=>match i with
   | .ak (.int _ n)=>match za st.heap j with
    | some (.af sz' _)=>if sz'=sz then some (.ptr j row 0,[],zj op (zd st.env),o,[Wl n 0 len row],0) else none
    | _=>none
   | _=>none
  | _=>none
 | _=>jr op cq st
def GG (op:cP) (AU:BinOp) (cq:List eS) (st:St) (x y:AV):xV:=match AU with
 | .quo | .rem | .shl | .shr=>match x,y with
  | .ak a,.ak b=>match cq with
   | .v r::o=>some (.ak r,[],zj op (zd st.env),o,[Kc AU a b r],0)
   | _=>none
  | _,_=>none
 | _=>jr op cq st
def B1 (st:St) (dflt:Int):Option bf→Option Int
 | none=>some dflt
 | some y=>match zd st.env y with
  | .ak (.int _ n)=>some n
  | _=>none
def GH (op:cP) (sz:Nat) (cq:List eS) (st:St) (lo hi:Option bf):AV→xV
 | .ak (.slice af)=>match B1 st 0 lo,B1 st (af.length:Int) hi,cq with
  | some a,some b,.s r::o=>some (.ak (.slice r),[],zj op (zd st.env),o,[Gx af sz a b r],0)
  | _,_,_=>none
 | _=>none
def Dw (C:Ctx) (cq:List eS) (st:St) (args:List AV):AV→xV
 | .func f first bq=>match cq with
  | .v x::o=>match aL (zD (za st.heap) 5) (first++args++bq) with
   | some dA=>match (first++args++bq).all (xf 5) with
    | true=>some (.ak x,[],[],o,[aJ C f dA x],0)
    | false=>none
   | none=>none
  | .w ids dA x::o=>match xA st.heap ids with
   | some bX=>match xL x with
    | true=>some (.ak x,[],ids,o,[aJ C f dA x,Dv (first++args++bq) bX dA],0)
    | false=>none
   | none=>none
  | .c l m r aN d::o=>match xA st.heap l with
   | some bX=>match ku l m st.next with
    | true=>some (r,aN,l,o,[lR C f (first++args++bq) l m st.next bX r aN d],d)
    | false=>none
   | none=>none
  | _=>none
 | _=>none
def GI (op:cP) (agg:Bool) (n:Nat) (cq:List eS) (st:St) (x:AV):xV:=match cq with
 | .ar row::o=>match x with
  | .ptr i r f=>match za st.heap i with
   | some (.af _ af)=>match agg with
    | true=>if f+n≤row.length then some (.agg ((row.drop f).take n),[],zj op (zd st.env),o,[Kd af r row],0) else none
    | false=>match row[f]? with
     | some c=>some (c,[],zj op (zd st.env),o,[Kd af r row],0)
     | none=>none
   | _=>none
  | _=>none
 | _=>jr op cq st
def GJ (op:cP) (n:Nat) (cq:List eS) (st:St) (x:AV) (v:Option (List AV)):xV:=match cq with
 | .aw row eb::o=>match x with
  | .ptr i r f=>match v with
   | some cs=>match za st.heap i with
    | some (.af sz af)=>if cs.length=n∧f+n≤row.length then some (.undef,[(i,.af sz eb)],zj op (zd st.env),o,[Gy af r row (q6 row f cs) eb],0) else none
    | _=>none
   | none=>none
  | _=>none
 | _=>jr op cq st
def GK (op:cP) (sz bL:Nat) (zero:List AV) (cq:List eS) (st:St) (x:AV):xV:=match cq with
 | .m k af::o=>match x with
  | .ak (.int .i64 n)=>some (.Zai st.next 0 k,[(st.next,.af sz af)],zj op (zd st.env),o,[Dq n bL zero k af],0)
  | _=>none
 | _=>jr op cq st
def GL (op:cP) (sz bL:Nat) (cq:List eS) (st:St) (x:AV) (s:AV):xV:=match cq with
 | .a af k::o=>match xI (za st.heap) x with
  | some new=>match s with
   | .nil=>some (.aS st.next af,[(st.next,.aT sz k)],zj op (zd st.env),o,[Dr sz bL [] new af 0 k],0)
   | .aS i old=>match za st.heap i with
    | some (.aT sz' len)=>if sz'=sz then some (.aS i af,[(i,.aT sz k)],zj op (zd st.env),o,[Dr sz bL old new af len k],0) else none
    | _=>none
   | _=>none
  | none=>none
 | .b af k::o=>match jQ (za st.heap) x with
  | some new=>match s with
   | .Zai i off len=>match za st.heap i with
    | some (.af sz' old)=>if sz'=sz∧off=0 then some (.Zai st.next 0 k,[(st.next,.af sz af),(i,.dead)],zj op (zd st.env),o,[OU sz bL old new af len k],0) else none
    | _=>none
   | _=>none
  | none=>none
 | _=>jr op cq st
def GM (op:cP) (str:Bool) (zero:AV) (ok:Bool) (cq:List eS) (st:St) (k m:AV):xV:=match cq with
 | .l x b::o=>match m,k with
  | .map i,.ak k=>match za st.heap i with
   | some (.map es)=>some (match ok with | true=>.tuple [x,.ak (.bool b)] | false=>x,[],zj op (zd st.env),o,[B0 str zero k es x b],0)
   | _=>none
  | .ak y,.ak k=>some (match ok with | true=>.tuple [x,.ak (.bool b)] | false=>x,[],zj op (zd st.env),o,[Du str zero k y x b],0)
  | _,_=>none
 | _=>jr op cq st
def GN (op:cP) (str:Bool) (cq:List eS) (st:St) (v k m:AV):xV:=match cq with
 | .u es'::o=>match m,k with
  | .map i,.ak k=>match za st.heap i with
   | some (.map es)=>some (.undef,[(i,.map es')],zj op (zd st.env),o,[Dt str k (xJ v) es es'],0)
   | _=>none
  | _,_=>none
 | _=>jr op cq st
def GO (op:cP) (neg:Bool) (cq:List eS) (st:St) (x y:AV):xV:=match cq with
 | .v r::o=>match x,y with
  | .ak a,.ak .cQ=>some (.ak r,[],zj op (zd st.env),o,[GA neg a r],0)
  | _,_=>none
 | _=>jr op cq st
def GP (op:cP) (sz:Nat) (cq:List eS) (st:St) (x:AV) (d:AV):xV:=match cq with
 | .b eb _::o=>match jQ (za st.heap) x with
  | some new=>match d with
   | .Zai i 0 len=>match za st.heap i with
    | some (.af sz' af)=>if sz'=sz then some (.ak (.int .i64 (len:Int)),[(i,.af sz eb)],zj op (zd st.env),o,[Gz sz af new eb len],0) else none
    | _=>none
   | _=>none
  | none=>none
 | _=>jr op cq st
def GQ (op:cP) (len sz:Nat) (cq:List eS) (st:St) (i x:AV):xV:=match cq with
 | .k row::o=>match x with
  | .agg cs=>match i with
   | .ak (.int _ n)=>match cs[row]? with
    | some c=>if sz=1 then some (c,[],zj op (zd st.env),o,[Wl n 0 len row],0) else none
    | none=>none
   | _=>none
  | _=>none
 | _=>jr op cq st
def gF (C:Ctx) (op:cP) (cq:List eS) (D:List Nat) (st:St):xV:=match op with
 | .pick c a b=>GB op cq st (OV D c) (zd st.env a) (zd st.env b) (zd st.env c)
 | .len x=>GC op cq st (zd st.env x)
 | .idx sz x i=>GD op sz cq st (zd st.env i) (zd st.env x)
 | .idxa len sz x i=>GF op len sz cq st (zd st.env i) (zd st.env x)
 | .bin AU x y=>GG op AU cq st (zd st.env x) (zd st.env y)
 | .slc sz x lo hi=>GH op sz cq st lo hi (zd st.env x)
 | .call f args=>Dw C cq st (args.map (zd st.env)) (zd st.env f)
 | .load agg n x=>GI op agg n cq st (zd st.env x)
 | .store n x v=>GJ op n cq st (zd st.env x) (cellsOf (zd st.env v))
 | .mks sz bL zero n=>GK op sz bL zero cq st (zd st.env n)
 | .app sz bL s x=>GL op sz bL cq st (zd st.env x) (zd st.env s)
 | .look str zero ok m k=>GM op str zero ok cq st (zd st.env k) (zd st.env m)
 | .upd str m k v=>GN op str cq st (zd st.env v) (zd st.env k) (zd st.env m)
 | .eqnm neg x y=>GO op neg cq st (zd st.env x) (zd st.env y)
 | .copy sz d x=>GP op sz cq st (zd st.env x) (zd st.env d)
 | .ixa len sz x i=>GQ op len sz cq st (zd st.env i) (zd st.env x)
 | op=>jr op cq st
def Xs (gd:Option (Nat×Bool)) (cq:List eS) (D:List Nat) (st:St):Option (Bool×List eS×List Prop×List Nat×St):=match gd with
 | none=>some (true,cq,[],D,st)
 | some (t,want)=>match (za st.env t).getD .top with
  | .undef=>some (false,cq,[],D,st)
  | .ak (.bool b)=>match D.contains t with
   | true=>match b with
    | true=>some (want,cq,[],D,st)
    | false=>some (!want,cq,[],D,st)
   | false=>match cq with
    | .g true::o=>some (want,o,[b=true],t::D,{st with env:=zk st.env t (.ak (.bool true))})
    | .g false::o=>some (!want,o,[b=false],t::D,{st with env:=zk st.env t (.ak (.bool false))})
    | _=>none
  | _=>none
def OW (dr:Option (List Nat)) (j:Nat) (W R:List (Nat×Nat)) (aN:List (Nat×aF)) (rd:List Nat) (d:Nat):Bool:=match dr with
 | none=>true
 | some ord=>d == 0&&xj ord j W R (z8 aN) rd
def St.mL (st:St) (dst:Option Nat) (r:AV) (aN:List (Nat×aF)) (d:Nat):St:=
 St.put {st with heap:=zL aN st.heap,next:=st.next+d+1} dst r
def Wm (D:List Nat):Option Nat→List Nat
 | some d=>D.filter (· != d)
 | none=>D
def Ke (C:Ctx) (dr:Option (List Nat)):List aM→Nat→List (Nat×Nat)→List (Nat×Nat)→List eS→List Nat→St→Option (St×List Prop)
 | [],_,_,_,cq,_,st=>match cq with
  | []=>some (st,[])
  | _=>none
 | it::rest,j,W,R,cq,D,st=>match Xs it.guard cq D st with
  | none=>none
  | some (false,o,ps,D',aY)=>match Ke C dr rest (j+1) W R o (Wm D' it.dst) (aY.after it.dst .undef []) with
   | some (s,qs)=>some (s,ps++qs)
   | none=>none
  | some (true,o,ps,D',aY)=>match gF C it.op o D' aY with
   | none=>none
   | some (r,aN,rd,o',ps',d)=>match OW dr j W R aN rd d with
    | false=>none
    | true=>match Ke C dr rest (j+1) (q7 j (z8 aN) W) (q7 j rd R) o' (Wm D' it.dst) (aY.mL it.dst r aN d) with
     | some (s,qs)=>some (s,ps++(ps'++qs))
     | none=>none
section
variable {C:Ctx}
theorem Ju {α:Type}:∀ {l:List (Nat×α)} {t:Nat} {x:α},za l t=some x→zk l t x=l
 | [],t,x,h=>by cases h
 | (k,v)::r,t,x,h=>by
  simp only [za] at h
  simp only [zk]
  split at h
  ·rename_i e;subst e;cases h;simp
  ·rename_i e;rw [if_neg e,Ju h]
theorem qq {op:cP} {cq o':List eS} {st:St} {r:AV} {aN:List (Nat×aF)} {rd:List Nat} {ps:List Prop} {d:Nat} (h:jr op cq st=some (r,aN,rd,o',ps,d)) :
  ai op (zd st.env) (za st.heap) st.next=some (r,aN)∧rd=zj op (zd st.env)∧d=0:=by
 unfold jr at h
 split at h
 ·rename_i e;cases h;exact ⟨e,rfl,rfl⟩
 ·cases h
def fN:cP→Bool
 | .call _ _=>true
 | _=>false
theorem OX {st:St} {sz id:Nat} {x:bf} {lo hi:Option bf} {af:List (List IV)} {h:Nat→Option aF} (hx:zd st.env x=.ak (.slice af)):ai (.slc sz x lo hi) (zd st.env) h id=match B1 st 0 lo,B1 st (af.length:Int) hi with
  | some a,some b=>if 0≤a∧a≤b∧b≤(af.length:Int)∧(af.all fun row=>row.length == sz)=true then some (.ak (.slice ((af.take b.toNat).drop a.toNat)),[]) else none
  | _,_=>none:=by
 simp only [ai,hx]
 cases lo<;>cases hi<;>rfl
theorem GR {op:cP} {cq o':List eS} {D:List Nat} {st:St} {r:AV} {aN:List (Nat×aF)} {rd:List Nat} {ps:List Prop} {d:Nat} (hc:fN op=false) (h:gF C op cq D st=some (r,aN,rd,o',ps,d)) (hp:cL ps) :
  ai op (zd st.env) (za st.heap) st.next=some (r,aN)∧rd=zj op (zd st.env)∧d=0:=by
 cases op
 case call=>cases hc
 case pick c a b=>
  simp only [gF] at h
  unfold GB at h
  simp only [ai]
  split at h
  ·rename_i x hx
   split at h
   ·split at h<;>(cases h;rw [hx];exact ⟨rfl,rfl,rfl⟩)
   ·split at h
    ·cases h;have:=hp.one;subst this;rw [hx];exact ⟨rfl,rfl,rfl⟩
    ·cases h;have:=hp.one;subst this;rw [hx];exact ⟨rfl,rfl,rfl⟩
    ·cases h
  ·cases h
 case len x=>
  simp only [gF] at h
  unfold GC at h
  split at h
  ·rename_i af hx
   split at h
   ·cases h
    have:=hp.one
    refine ⟨?_,rfl,rfl⟩
    simp only [ai,wy,hx]
    unfold AT at this
    rw [this]
   ·cases h
  ·rename_i af hx
   split at h
   ·cases h
    have:=hp.one
    refine ⟨?_,rfl,rfl⟩
    simp only [ai,wy,hx]
    unfold AT at this
    rw [this]
   ·cases h
  ·exact qq h
 case idx sz x i=>
  simp only [gF] at h
  unfold GD at h
  split at h
  ·rename_i af hx
   split at h
   ·rename_i k n hi
    split at h
    ·split at h
     ·rename_i hl
      cases h
      have:=hp.one
      refine ⟨?_,rfl,rfl⟩
      simp only [ai,hx,hi,if_pos this.1,this.2,if_pos hl]
     ·cases h
    ·cases h
   ·cases h
  ·rename_i af hx
   split at h
   ·rename_i k n hi
    split at h
    ·split at h
     ·rename_i hl
      cases h
      have:=hp.one
      refine ⟨?_,rfl,rfl⟩
      simp only [ai,hx,hi,if_pos this.1,this.2,if_pos hl]
     ·cases h
    ·cases h
   ·cases h
  ·rename_i j off len hx
   split at h
   ·split at h
    ·rename_i k n hi
     split at h
     ·rename_i sz' af ho
      split at h
      ·rename_i hsz
       cases h
       obtain ⟨h1,h2,h3⟩:=hp.one
       refine ⟨?_,rfl,rfl⟩
       simp only [ai,hx,hi,ho]
       rw [if_pos ⟨hsz,h1,h2⟩,h3]
      ·cases h
     ·cases h
    ·cases h
   ·exact qq h
  ·exact qq h
 case idxa len sz x i=>
  simp only [gF] at h
  unfold GF at h
  split at h
  ·split at h
   ·rename_i j hx
    split at h
    ·rename_i k n hi
     split at h
     ·rename_i sz' af ho
      split at h
      ·rename_i hsz
       cases h
       obtain ⟨h1,h2,h3⟩:=hp.one
       refine ⟨?_,rfl,rfl⟩
       simp only [ai,hx,hi,ho]
       rw [if_pos ⟨hsz,h1,h2⟩,←h3,uv]
      ·cases h
     ·cases h
    ·cases h
   ·cases h
  ·exact qq h
 case bin AU x y=>
  simp only [gF] at h
  unfold GG at h
  split at h
  all_goals first
   | exact qq h
   | skip
  all_goals
   split at h
   ·rename_i a b hx hy
    split at h
    ·cases h
     have:=hp.one
     unfold Kc at this
     refine ⟨?_,rfl,rfl⟩
     simp only [ai,hx,hy,this,uy]
    ·cases h
   ·cases h
 case slc sz x lo hi=>
  simp only [gF] at h
  unfold GH at h
  split at h
  ·rename_i af hx
   split at h
   ·rename_i a b r' o ha hb
    cases h
    obtain ⟨h1,h2,h3,h4,h5⟩:=hp.one
    refine ⟨?_,rfl,rfl⟩
    rw [OX hx,ha,hb]
    simp only
    rw [if_pos ⟨h1,h2,h3,h4⟩,h5]
   ·cases h
  ·cases h
 case load agg n x=>
  simp only [gF] at h
  unfold GI at h
  split at h
  ·split at h
   ·rename_i i OY f hx
    split at h
    ·rename_i sz af ho
     split at h
     ·split at h
      ·rename_i hle
       cases h
       have h1:=hp.one
       unfold Kd at h1
       refine ⟨?_,rfl,rfl⟩
       simp only [ai,hx,ho,h1,if_true]
       rw [if_pos hle]
      ·cases h
     ·split at h
      ·rename_i c hcell
       cases h
       have h1:=hp.one
       unfold Kd at h1
       refine ⟨?_,rfl,rfl⟩
       simp only [ai,hx,ho,h1,hcell,uy,uB,if_false]
      ·cases h
    ·cases h
   ·cases h
  ·exact qq h
 case store n x v=>
  simp only [gF] at h
  unfold GJ at h
  split at h
  ·split at h
   ·rename_i i OY f hx
    split at h
    ·rename_i cs hcs
     split at h
     ·rename_i sz af ho
      split at h
      ·rename_i hle
       cases h
       obtain ⟨h1,h2⟩:=hp.one
       refine ⟨?_,rfl,rfl⟩
       simp only [ai,hx,hcs,ho,h1]
       rw [if_pos hle,h2]
      ·cases h
     ·cases h
    ·cases h
   ·cases h
  ·exact qq h
 case mks sz bL zero n=>
  simp only [gF] at h
  unfold GK at h
  split at h
  ·split at h
   ·rename_i k af o n' hx
    cases h
    obtain ⟨h1,h2,h3⟩:=hp.one
    refine ⟨?_,rfl,rfl⟩
    simp only [ai,hx]
    rw [if_pos h1,h2,h3]
   ·cases h
  ·exact qq h
 case app sz bL s x=>
  simp only [gF] at h
  unfold GL at h
  split at h
  ·split at h
   ·rename_i new hnew
    split at h
    ·rename_i hs
     cases h
     obtain ⟨h1,h2,h3,h4,h5⟩:=hp.one
     refine ⟨?_,rfl,rfl⟩
     simp only [ai,hs,J4,hnew,h1]
     simp only [List.nil_append] at h4
     subst h4
     simp only [uv] at h3 h5
     subst h5
     simp [h3]
    ·rename_i i old hs
     split at h
     ·rename_i sz' len ho
      split at h
      ·rename_i hsz
       cases h
       obtain ⟨h1,h2,h3,h4,h5⟩:=hp.one
       refine ⟨?_,rfl,rfl⟩
       simp only [ai,hs,J4,hnew,h1,ho]
       subst h4 h5
       simp [hsz,h2,h3]
      ·cases h
     ·cases h
    ·cases h
   ·cases h
  ·split at h
   ·rename_i new hnew
    split at h
    ·rename_i i off len hs
     split at h
     ·rename_i sz' old ho
      split at h
      ·rename_i hsz
       cases h
       obtain ⟨h1,h2,h3,h4,h5⟩:=hp.one
       refine ⟨?_,rfl,rfl⟩
       simp only [ai,hs,Je,hnew,h1,ho]
       simp only [Bool.not_true,uB,if_false]
       rw [if_pos ⟨hsz.1,hsz.2,h2,h3⟩,h4,h5]
      ·cases h
     ·cases h
    ·cases h
   ·cases h
  ·exact qq h
 case look str zero ok m k=>
  simp only [gF] at h
  unfold GM at h
  split at h
  ·split at h
   ·rename_i i kk hm hk
    split at h
    ·rename_i es ho
     cases h
     obtain ⟨h1,h2⟩:=hp.one
     refine ⟨?_,rfl,rfl⟩
     simp only [ai,jx,hm,hk,ho,h1,if_true]
     rcases h2 with ⟨h3,h4⟩ | ⟨h3,h4,h5⟩
     ·rw [h3,h4];cases ok<;>rfl
     ·rw [h3,h4,h5];cases ok<;>rfl
    ·cases h
   ·rename_i y kk hm hk
    cases h
    obtain ⟨es,h0,h1,h2⟩:=hp.one
    refine ⟨?_,rfl,rfl⟩
    have h0':jx (za st.heap) (.ak y)=some es:=by
     revert h0
     unfold jx
     cases y<;>exact fun h=>h
    simp only [ai,hm,h0',hk,h1,if_true]
    rcases h2 with ⟨h3,h4⟩ | ⟨h3,h4,h5⟩
    ·rw [h3,h4];cases ok<;>rfl
    ·rw [h3,h4,h5];cases ok<;>rfl
   ·cases h
  ·exact qq h
 case upd str m k v=>
  simp only [gF] at h
  unfold GN at h
  split at h
  ·split at h
   ·rename_i i kk hm hk
    split at h
    ·rename_i es ho
     cases h
     obtain ⟨h1,h2⟩:=hp.one
     refine ⟨?_,rfl,rfl⟩
     simp only [ai,hm,hk,ho,h1,if_true,h2]
    ·cases h
   ·cases h
  ·exact qq h
 case eqnm neg x y=>
  simp only [gF] at h
  unfold GO at h
  split at h
  ·split at h
   ·rename_i a hx hy
    cases h
    obtain ⟨b,h0,h1⟩:=hp.one
    refine ⟨?_,rfl,rfl⟩
    have h0':vN (za st.heap) (.ak a)=some b:=by
     revert h0
     unfold vN
     cases a<;>exact fun h=>h
    simp only [ai,hy,hx,h0',h1]
   ·cases h
  ·exact qq h
 case copy sz d x=>
  simp only [gF] at h
  unfold GP at h
  split at h
  ·split at h
   ·rename_i new hnew
    split at h
    ·rename_i i len hd
     split at h
     ·rename_i sz' af ho
      split at h
      ·rename_i hsz
       cases h
       obtain ⟨h1,h2,h3,h4⟩:=hp.one
       refine ⟨?_,rfl,rfl⟩
       simp only [ai,BO,hd,ho,hnew]
       rw [if_pos ⟨hsz,h1,h2,h3⟩,h4]
      ·cases h
     ·cases h
    ·cases h
   ·cases h
  ·exact qq h
 case ixa len sz x i=>
  simp only [gF] at h
  unfold GQ at h
  split at h
  ·split at h
   ·rename_i cs hx
    split at h
    ·rename_i k n hi
     split at h
     ·rename_i c hc
      split at h
      ·rename_i hsz
       cases h
       obtain ⟨h1,h2,h3⟩:=hp.one
       refine ⟨?_,rfl,rfl⟩
       simp only [ai,hx,hi]
       rw [uv] at h3
       rw [if_pos ⟨hsz,h1,h2⟩,h3,hc]
       rfl
      ·cases h
     ·cases h
    ·cases h
   ·cases h
  ·exact qq h
 all_goals exact qq h
theorem GU {C:bA} {op:cP} {cq o':List eS} {D:List Nat} {st:St} {r:AV} {aN:List (Nat×aF)} {rd:List Nat} {ps:List Prop} {d:Nat} {dst:Option Nat} {K:St→Prop} (h:gF C op cq D st=some (r,aN,rd,o',ps,d)) (hp:cL ps) (hK:K (st.mL dst r aN d)) :
  cj C dst K st op:=by
 cases hc:fN op
 ·obtain ⟨e,_,rfl⟩:=GR hc h hp
  cases op<;>first | (cases hc;done) | (simp only [cj];rw [e];exact hK)
 ·cases op<;>first | (cases hc;done) | skip
  rename_i f args
  simp only [gF] at h
  unfold Dw at h
  split at h
  ·rename_i f' first bq hf
   simp only [cj,hf]
   split at h
   ·split at h
    ·rename_i dA hiv
     split at h
     ·rename_i hm;cases h;exact bJ.pure (d:=5) hp.one hm hiv hK
     ·cases h
    ·cases h
   ·split at h
    ·rename_i bX ho
     split at h
     ·rename_i hm
      cases h
      cases hp with
      | cons h1 h2=>exact bJ.ou (d:=5) h1 (Js (Jt ho) h2.one) hm hK
     ·cases h
    ·cases h
   ·split at h
    ·rename_i bX ho
     split at h
     ·rename_i hm
      cases h
      exact bJ.dB hp.one hm ho hK
     ·cases h
    ·cases h
   ·cases h
  ·cases h
theorem yX {gd:Option (Nat×Bool)} {cq o:List eS} {D D':List Nat} {st aY:St} {b:Bool} {ps:List Prop} (h:Xs gd cq D st=some (b,o,ps,D',aY)) (hp:cL ps):aY=st∧qd st.env gd=some b:=by
 unfold Xs at h
 split at h
 ·cases h;exact ⟨rfl,rfl⟩
 ·rename_i t want
  split at h
  ·rename_i e;cases h;exact ⟨rfl,by simp only [qd,e]⟩
  ·rename_i x e
   have cT:za st.env t=some (.ak (.bool x)):=by
    cases h1:za st.env t with
    | none=>rw [h1] at e;cases e
    | some y=>rw [h1] at e;simp only [Option.getD_some] at e;rw [e]
   split at h
   ·split at h
    ·cases h;exact ⟨rfl,by simp only [qd,e];cases b<;>rfl⟩
    ·cases h;exact ⟨rfl,by simp only [qd,e];cases want<;>rfl⟩
   ·split at h
    ·cases h;have:=hp.one;subst this;exact ⟨by rw [Ju cT],by simp only [qd,e];cases b<;>rfl⟩
    ·cases h;have:=hp.one;subst this;exact ⟨by rw [Ju cT],by simp only [qd,e];cases want<;>rfl⟩
    ·cases h
  ·cases h
theorem Kf {C:bA} {it:aM} {st:St} {b:Bool} {K:St→Prop} (hg:qd st.env it.guard=some b) (h1:b=true→cj C it.dst K st it.op) (h2:b=false→K (st.after it.dst .undef [])):Xm C it K st:=by
 unfold Xm
 cases hgd:it.guard with
 | none=>rw [hgd] at hg;simp only [qd,Option.some.injEq] at hg;exact h1 hg.symm
 | some p=>
  obtain ⟨t,want⟩:=p
  rw [hgd] at hg
  simp only [qd] at hg
  simp only [Xl]
  split at hg
  ·rename_i x e
   rw [e]
   simp only [Option.some.injEq] at hg
   simp only
   rw [hg]
   cases b
   ·exact h2 rfl
   ·exact h1 rfl
  ·rename_i e
   rw [e]
   simp only [Option.some.injEq] at hg
   exact h2 hg.symm
  ·cases hg
theorem Kg {C:bA}:∀ {items:List aM} {j:Nat} {W R:List (Nat×Nat)} {cq:List eS} {D:List Nat} {st aY:St} {ps:List Prop} {K:St→Prop},Ke C none items j W R cq D st=some (aY,ps)→cL ps→K aY→l9 C items K st
 | [],j,W,R,cq,D,st,aY,ps,K,h,hp,hK=>by
  simp only [Ke] at h
  split at h
  ·cases h;exact hK
  ·cases h
 | it::rest,j,W,R,cq,D,st,aY,ps,K,h,hp,hK=>by
  simp only [Ke] at h
  split at h
  ·cases h
  ·rename_i o qs D' s hg
   split at h
   ·rename_i s2 rs hr
    cases h
    obtain ⟨p1,p2⟩:=hp.app
    obtain ⟨rfl,hgd⟩:=yX hg p1
    exact Kf hgd (fun h=>by cases h) (fun _=>Kg hr p2 hK)
   ·cases h
  ·rename_i o qs D' s hg
   split at h
   ·cases h
   ·rename_i r aN rd o' ps' d hop
    split at h
    ·cases h
    ·split at h
     ·rename_i s2 rs hr
      cases h
      obtain ⟨p1,p2⟩:=hp.app
      obtain ⟨p3,p4⟩:=p2.app
      obtain ⟨rfl,hgd⟩:=yX hg p1
      exact Kf hgd (fun _=>GU hop p3 (Kg hr p4 hK)) (fun h=>by cases h)
     ·cases h
theorem OZ (ord:List Nat) (j:Nat) (W R:List (Nat×Nat)):xj ord j W R [] []=true:=by
 simp [xj]
def GV (C:Ctx) (dr:Option (List Nat)) (items:List aM) (ks:List Nat) (cq:List eS) (st:St):Option (St×List Prop):=match Ke C dr items 0 [] [] cq [] st with
 | some (s,ps)=>some (s.keep (some ks),ps)
 | none=>none
theorem qU {C:bA} {nt:Fr} {o:List Nat} {items:List aM} {ks:List Nat} {K:Exit→St→Prop} {st aY:St} (cq:List eS) {ps:List Prop} (hp:cL ps) (hK:K .normal aY) (h:GV C none items ks cq st=some (aY,ps)):cD C nt (.region false o items (some ks)) K st:=by
 unfold GV at h
 split at h
 ·rename_i s qs hr
  cases h
  exact yv (Kg hr hp hK)
 ·cases h
end
theorem O0 {α:Type} (f:α→List IV) (l:List α):AT (uh f l) (l.length:Int):=by simp [AT]
theorem O1 {α:Type} (f:α→List IV) {l:List α} {n:Int} {e:α} (h:ze l n=some e):Gw (uh f l) n (f e):=by
 obtain ⟨h1,h2,_⟩:=Xq h
 exact ⟨h1,by simp [h2]⟩
theorem O3 {α:Type} (f:α→List IV) (sz:Nat) (hf:∀ x,(f x).length=sz) {l e:List α} {a b:Int} (h:Vd l a b=some e):Gx (uh f l) sz a b (uh f e):=by
 obtain ⟨h1,h2,h3,h4⟩:=OL h
 exact ⟨h1,h2,by simpa using h3,by simp [hf],by rw [←h4];simp [uH,List.map_drop]⟩
theorem O5 {k:IntKind} {a b e:Int} (h:Jr k a b=some e):Kc .rem (.int k a) (.int k b) (.int k e):=by
 obtain ⟨h1,h2⟩:=OM h
 simp [Kc,h1,h2]
section
variable {α β:Type}
def zi (len:Nat) (n:Int):Option Nat:=if 0≤n∧n < (len:Int) then some n.toNat else none
theorem zn {len k:Nat} {n:Int} (h:zi len n=some k):Wl n 0 len k:=by
 unfold zi at h;split at h
 ·rename_i hh;cases h;exact ⟨hh.1,hh.2,by omega⟩
 ·cases h
theorem zT (f:α→List IV) {l:List α} {k:Nat} {e:α} (h:l[k]?=some e):Kd (zc f l) k (zt (f e)):=by
 unfold Kd zc;rw [ub,h];rfl
theorem zP (f:α→List IV) {l:List α} {k:Nat} {e:α} (e':α) (h:l[k]?=some e):Gy (zc f l) k (zt (f e)) (zt (f e')) (zc f (l.set k e')):=by
 refine ⟨zT f h,?_⟩
 simp only [zc,List.map_set]
theorem Wn {l:List α} {k:Nat} {e:α} (e':α) (h:l[k]?=some e):(l.set k e')[k]?=some e':=by
 obtain ⟨hk,_⟩:=ua.1 h
 simp [hk]
def ei (bL:Nat) (n:Int):Option Nat:=if 0≤n∧n < 2 ^ 31∧n*bL≤140737488355328 then some n.toNat else none
theorem xB (f:α→List IV) (z:α) {bL k:Nat} {n:Int} (h:ei bL n=some k):Dq n bL (zt (f z)) k (zc f (ud k z)):=by
 unfold ei at h;split at h
 ·rename_i hh;cases h;exact ⟨hh,rfl,by simp [zc]⟩
 ·cases h
theorem GW (row:List AV) {bL k:Nat} {n:Int} (h:ei bL n=some k):Dq n bL row k (ud k row):=by
 unfold ei at h;split at h
 ·rename_i hh;cases h;exact ⟨hh,rfl,rfl⟩
 ·cases h
def xX (k:Nat) (d l:List α):Option (List α):=if k=d.length∧l.length=k then some l else none
theorem O6 {k:Nat} {d l e:List α} (h:xX k d l=some e):k=d.length∧l.length=k∧e=l:=by
 unfold xX at h;split at h
 ·rename_i hh;cases h;exact ⟨hh.1,hh.2,rfl⟩
 ·cases h
theorem Xt (f:α→List IV) (sz:Nat) (hf:∀ x,(f x).length=sz) {k:Nat} {d l e:List α} (h:xX k d l=some e):Gz sz (zc f d) (uh (uh AV.ak) (uh f l)) (zc f e) k:=by
 obtain ⟨h1,h2,rfl⟩:=O6 h
 refine ⟨by simpa [zc] using h1,by simpa using h2,by simp [hf],?_⟩
 simp only [zc,uI];congr 1
def zJ (bL:Nat) (l m:List α):Option (List α):=if (l.length+m.length)*bL≤140737488355328 then some (l++m) else none
theorem qm (f:α→List IV) (sz bL:Nat) (hf:∀ x,(f x).length=sz) {l m e:List α} (h:zJ bL l m=some e):Dr sz bL (uh f l) (uh f m) (uh f e) l.length e.length:=by
 unfold zJ at h;split at h
 ·rename_i hh;cases h;exact ⟨by simp [hf],by simp,by simpa using hh,by simp,by simp⟩
 ·cases h
def GX (bL:Nat) (l m:List α):Option (List α):=if (l.length+m.length)*bL≤140737488355328 then some (l++m) else none
end
def IV.i64 (n:Int):IV:=.int .i64 n
theorem jO (args:List AV) (bX:List (Nat×aF)) (dA:List IV) (h:aL (zD (za bX) 5) args=some dA):Dv args bX dA:=h
def Xu (k k':IntKind) (a b:Int):Option Int:=if b < 0 then none else some (a.fdiv (2 ^ (min b.toNat k.bits)))
theorem O7 {k k':IntKind} {a b e:Int} (h:Xu k k' a b=some e):Kc .shr (.int k a) (.int k' b) (.int k e):=by
 unfold Xu at h
 split at h
 ·cases h
 ·rename_i hb;cases h;simp [Kc,hb]
def zl {α β:Type} [DecidableEq α] (k:α):List (α×β)→Option β
 | []=>none
 | (k',v)::r=>if k=k' then some v else zl k r
def zG {α β:Type} [DecidableEq α] (k:α) (v:β):List (α×β)→List (α×β)
 | []=>[(k,v)]
 | (k',v')::r=>if k=k' then (k,v)::r else (k',v')::zG k v r
theorem Zb {β:Type} (vf:β→IV) (k:Int) (es:List (Int×β)):xK (.int .i64 k) (zp IV.i64 vf es)=true:=by
 simp [xK,zp,IV.i64,jZ]
theorem wX {β:Type} (vf:β→IV) (k:Int):∀ es:List (Int×β),qt (.int .i64 k) (zp IV.i64 vf es)=(zl k es).map fun v=>.ak (vf v)
 | []=>rfl
 | (k',v)::r=>by
  have ih:=wX vf k r
  simp only [zp,ui,qt,IV.i64,jZ,if_true,zl] at ih ⊢
  by_cases e:k=k'
  ·subst e;simp
  ·simp only [beq_eq_false_iff_ne.2 e,if_neg e];exact ih
theorem Xv {β:Type} (vf:β→IV) (k:Int) (x:β):∀ es:List (Int×β),qO (.int .i64 k) (.ak (vf x)) (zp IV.i64 vf es)=zp IV.i64 vf (zG k x es)
 | []=>rfl
 | (k',v)::r=>by
  have ih:=Xv vf k x r
  simp only [zp,ui,qO,IV.i64,jZ,if_true,zG] at ih ⊢
  by_cases e:k=k'
  ·subst e;simp
  ·simp only [beq_eq_false_iff_ne.2 e,if_neg e,ui];rw [ih]
theorem Xw {β:Type} (vf:β→IV) (z:β) (k:Int) (es:List (Int×β)):B0 false (.ak (vf z)) (.int .i64 k) (zp IV.i64 vf es) (.ak (vf ((zl k es).getD z))) (zl k es).isSome:=by
 refine ⟨by rw [Zb];rfl,?_⟩
 rw [wX]
 cases zl k es with
 | none=>exact .inr ⟨rfl,rfl,rfl⟩
 | some v=>exact .inl ⟨rfl,rfl⟩
theorem Ve {β:Type} (vf:β→IV) (k:Int) (x:β) (es:List (Int×β)):Dt false (.int .i64 k) (.ak (vf x)) (zp IV.i64 vf es) (zp IV.i64 vf (zG k x es)):=
 ⟨by rw [Zb];rfl,Xv vf k x es⟩
theorem V2 (a b:ByteArray):(a == b)=decide (a=b):=by
 obtain ⟨a⟩:=a
 obtain ⟨b⟩:=b
 rw [Bool.eq_iff_iff,decide_eq_true_iff]
 show (a == b)=true↔_
 simp
theorem V3 {β:Type} (vf:β→IV) (k:ByteArray) (es:List (ByteArray×β)):xK (.str k) (zp IV.str vf es)=true:=by
 simp [xK,zp,jZ]
theorem JY {β:Type} (vf:β→IV) (k:ByteArray):∀ es:List (ByteArray×β),qt (.str k) (zp IV.str vf es)=(zl k es).map fun v=>.ak (vf v)
 | []=>rfl
 | (k',v)::r=>by
  have ih:=JY vf k r
  simp only [zp,ui,qt,jZ,zl] at ih ⊢
  by_cases e:k=k'
  ·subst e;simp [V2]
  ·simp only [V2,decide_eq_false e,if_neg e];exact ih
theorem Xx {β:Type} (vf:β→IV) (k:ByteArray) (x:β):∀ es:List (ByteArray×β),qO (.str k) (.ak (vf x)) (zp IV.str vf es)=zp IV.str vf (zG k x es)
 | []=>rfl
 | (k',v)::r=>by
  have ih:=Xx vf k x r
  simp only [zp,ui,qO,jZ,zG] at ih ⊢
  by_cases e:k=k'
  ·subst e;simp [V2]
  ·simp only [V2,decide_eq_false e,if_neg e,ui];rw [ih]
theorem vW {β:Type} (vf:β→IV) (z:β) (k:ByteArray) (es:List (ByteArray×β)):B0 true (.ak (vf z)) (.str k) (zp IV.str vf es) (.ak (vf ((zl k es).getD z))) (zl k es).isSome:=by
 refine ⟨by rw [V3];rfl,?_⟩
 rw [JY]
 cases zl k es with
 | none=>exact .inr ⟨rfl,rfl,rfl⟩
 | some v=>exact .inl ⟨rfl,rfl⟩
theorem wc {β:Type} (vf:β→IV) (k:ByteArray) (x:β) (es:List (ByteArray×β)):Dt true (.str k) (.ak (vf x)) (zp IV.str vf es) (zp IV.str vf (zG k x es)):=
 ⟨by rw [V3];rfl,Xx vf k x es⟩
def qR {α β:Type} (kf:α→IV) (vf:β→IV):Option (List (α×β))→IV
 | none=>.cQ
 | some es=>.eH (es.map fun e=>(kf e.1,vf e.2))
theorem O8 {α β:Type} (kf:α→IV) (vf:β→IV) (e:Option (List (α×β))):jx (fun _=>none) (.ak (qR kf vf e))=some (zp kf vf (e.getD [])):=by
 cases e with
 | none=>rfl
 | some es=>simp [qR,jx,zp]
theorem V4 {β:Type} (vf:β→IV) (z:β) (k:Int) (e:Option (List (Int×β))):Du false (.ak (vf z)) (.int .i64 k) (qR IV.i64 vf e) (.ak (vf ((zl k (e.getD [])).getD z))) (zl k (e.getD [])).isSome:=
 ⟨_,O8 _ _ e,Xw vf z k _⟩
theorem O9 {α β:Type} (neg:Bool) (kf:α→IV) (vf:β→IV) (e:Option (List (α×β))):GA neg (qR kf vf e) (.bool (if neg then e.isSome else !e.isSome)):=by
 cases e with
 | none=>exact ⟨true,rfl,by cases neg<;>rfl⟩
 | some es=>exact ⟨false,rfl,by cases neg<;>rfl⟩
theorem V5 {α β:Type} (kf:α→IV) (vf:β→IV) (h:Nat→Option aF) (d:Nat):∀ es:List (α×β),aL (fun e:IV×AV=>(zD h (d+1) e.2).map fun y=>(e.1,y)) (zp kf vf es)=some (es.map fun e=>(kf e.1,vf e.2))
 | []=>rfl
 | (k,v)::r=>by
  have ih:=V5 kf vf h d r
  simp only [zp,ui,aL,zD,uy] at ih ⊢
  rw [ih]
theorem Pa {α β:Type} (kf:α→IV) (vf:β→IV) (h:Nat→Option aF) (d id:Nat) (es:List (α×β)) (ho:h id=some (.map (zp kf vf es))):zD h (d+2) (.map id)=some (qR kf vf (some es)):=by
 show (match h id with
  | some (.map es)=>(aL (fun e:IV×AV=>(zD h (d+1) e.2).map fun y=>(e.1,y)) es).map IV.eH
  | _=>none)=_
 rw [ho]
 simp only [V5]
 rfl
theorem V6 {α:Type} (f:α→List IV) (h:Nat→Option aF) (d:Nat):∀ l:List α,aL (fun row:List AV=>aL (zD h (d+1)) row) (zc f l)=some (l.map f)
 | []=>rfl
 | x::l=>by
  have ih:=V6 f h d l
  have h1:aL (zD h (d+1)) (zt (f x))=some (f x):=by
   generalize f x=r
   induction r with
   | nil=>rfl
   | cons a r ih=>simp only [zt,ui,aL,zD] at ih ⊢; rw [ih]
  simp only [zc,ui,aL] at ih ⊢
  rw [h1];simp only;rw [ih]
theorem GY {α:Type} (f:α→List IV) (h:Nat→Option aF) (d id sz:Nat) (l:List α) (ho:h id=some (.af sz (zc f l))):zD h (d+2) (.Zai id 0 l.length)=some (.slice (l.map f)):=by
 show (match h id with
  | some (.af _ af)=>if 0+l.length≤af.length then (aL (fun row:List AV=>aL (zD h (d+1)) row) ((af.drop 0).take l.length)).map IV.slice else none
  | _=>none)=_
 rw [ho]
 simp only [uz]
 rw [if_pos (by simp [zc]),uw (by simp [zc]),V6 f h d l];rfl
end
def B2 (m:Nat) (ov env:List (Nat×AV)):List Nat→Option (List (Nat×AV)×List Prop)
 | []=>some ([],[])
 | k::ks=>match za env k with
  | none=>none
  | some a=>match B2 m ov env ks with
   | none=>none
   | some (l,ps)=>match za ov k with
    | some b=>match zZ m b with
     | true=>some ((k,b)::l,(a=b)::ps)
     | false=>none
    | none=>match zZ m a with
     | true=>some ((k,a)::l,ps)
     | false=>none
def Kh (m:Nat):aF→Bool
 | .af _ af=>af.all fun row=>row.all (zZ m)
 | .aT _ _=>true
 | .map es=>es.all fun e=>zZ m e.2
 | .dead=>true
 | .lp _ _ _ _=>true
theorem vX {m:Nat} {o:aF} (h:Kh m o=true):z6 m o:=by
 cases o<;>simp only [Kh,z6] at h ⊢
 ·intro row hr x hx;exact ul.1 (ul.1 h row hr) x hx
 ·intro e he;exact ul.1 h e he
def B3 (m:Nat) (ov heap:List (Nat×aF)):List (Nat×Bool)→Option (List (Nat×aF)×List Prop)
 | []=>some ([],[])
 | (k,f)::ks=>match za heap k with
  | none=>none
  | some a=>match B3 m ov heap ks with
   | none=>none
   | some (l,ps)=>match decide (k < m) with
    | false=>none
    | true=>match za ov k with
     | some b=>match f with
      | true=>match Kh m b with
       | true=>some ((k,b)::l,(a=b)::ps)
       | false=>none
      | false=>some ((k,b)::l,(a=b)::z6 m b::ps)
     | none=>match f with
      | true=>match Kh m a with
       | true=>some ((k,a)::l,ps)
       | false=>none
      | false=>some ((k,a)::l,z6 m a::ps)
def GZ (ks:List Nat) (hs:List (Nat×Bool)) (n:Nat) (ov:List (Nat×AV)) (Dx:List (Nat×aF)) (st:St):Option (St×List Prop):=match decide (n≤st.next) with
 | false=>none
 | true=>match B2 n ov st.env ks,B3 n Dx st.heap hs with
  | some (e,ps),some (h,qs)=>some (⟨e,h,n⟩,ps++qs)
  | _,_=>none
theorem Xy {m:Nat} {ov env:List (Nat×AV)}:∀ {ks:List Nat} {l:List (Nat×AV)} {ps:List Prop},B2 m ov env ks=some (l,ps)→cL ps→∀ p∈l,za env p.1=some p.2∧zZ m p.2=true
 | [],l,ps,h,hp=>by cases h;intro p hp;cases hp
 | k::ks,l,ps,h,hp=>by
  simp only [B2] at h
  split at h
  ·cases h
  ·rename_i a ha
   split at h
   ·cases h
   ·rename_i l' ps' hr
    split at h
    ·split at h
     ·rename_i b hb sF
      cases h
      cases hp with
      | cons h1 h2=>
       intro p hp
       rcases ue.1 hp with rfl | hp
       ·exact ⟨by rw [ha,h1],sF⟩
       ·exact Xy hr h2 p hp
     ·cases h
    ·split at h
     ·rename_i sF
      cases h
      intro p oA
      rcases ue.1 oA with rfl | oA
      ·exact ⟨ha,sF⟩
      ·exact Xy hr hp p oA
     ·cases h
theorem vY {m:Nat} {ov heap:List (Nat×aF)}:∀ {ks:List (Nat×Bool)} {l:List (Nat×aF)} {ps:List Prop},B3 m ov heap ks=some (l,ps)→cL ps→∀ p∈l,za heap p.1=some p.2∧p.1 < m∧z6 m p.2
 | [],l,ps,h,hp=>by cases h;intro p hp;cases hp
 | (k,f)::ks,l,ps,h,hp=>by
  simp only [B3] at h
  split at h
  ·cases h
  ·rename_i a ha
   split at h
   ·cases h
   ·rename_i l' ps' hr
    split at h
    ·cases h
    ·rename_i hk
     have hk:=of_decide_eq_true hk
     split at h
     ·rename_i b hb
      split at h
      ·split at h
       ·rename_i sF
        cases h
        cases hp with
        | cons h1 h2=>
         intro p hp
         rcases ue.1 hp with rfl | hp
         ·exact ⟨by rw [ha,h1],hk,vX sF⟩
         ·exact vY hr h2 p hp
       ·cases h
      ·cases h
       cases hp with
       | cons h1 h2=>
        cases h2 with
        | cons h3 h4=>
         intro p hp
         rcases ue.1 hp with rfl | hp
         ·exact ⟨by rw [ha,h1],hk,h3⟩
         ·exact vY hr h4 p hp
     ·split at h
      ·split at h
       ·rename_i sF
        cases h
        intro p oA
        rcases ue.1 oA with rfl | oA
        ·exact ⟨ha,hk,vX sF⟩
        ·exact vY hr hp p oA
       ·cases h
      ·cases h
       cases hp with
       | cons h3 h4=>
        intro p oA
        rcases ue.1 oA with rfl | oA
        ·exact ⟨ha,hk,h3⟩
        ·exact vY hr h4 p oA
theorem G0 {st aY:St} (ks:List Nat) (hs:List (Nat×Bool)) (n:Nat) (ov:List (Nat×AV)) (Dx:List (Nat×aF)) {ps:List Prop} (hp:cL ps) (h:GZ ks hs n ov Dx st=some (aY,ps)):bR st aY:=by
 unfold GZ at h
 split at h
 ·cases h
 ·rename_i hn
  split at h
  ·rename_i e qs hh rs he Pb
   cases h
   obtain ⟨p1,p2⟩:=hp.app
   exact QH (of_decide_eq_true hn) (Xy he p1) (vY Pb p2)
  ·cases h
theorem Pc {rs:List dD} {d:Nat} {r:IV} {st:St} (h:(jd rs st).bind (zD (za st.heap) d)=some r):Za rs (Xp d r) .ret st:=by
 unfold Za Jp
 simp only
 cases h1:jd rs st with
 | none=>rw [h1] at h;cases h
 | some x=>rw [h1] at h;exact h
theorem bJ.cC {C:Ctx} {f:Nat} {args:List AV} {heap:List (Nat×aF)} {next:Nat} {K K':AV→List (Nat×aF)→Nat→Prop} (hc:bJ C f args heap next K)
  (hk:∀ r h n,K r h n→∃ r' h' n',K' r' h' n'∧next≤n'∧bR ⟨[(0,r)],h,n⟩ ⟨[(0,r')],h',n'⟩):bJ C f args heap next K':=by
 refine ⟨hc.1,fun g w vs R hv=>(hc.2 g w vs R hv).mono ?_⟩
 rintro e w' ⟨v,r,heap',next',g',rfl,hK,E,R',hx⟩
 obtain ⟨r',h',n',hK',hn,hw⟩:=hk r heap' next' hK
 let a:Act:={tmps := #[v],defers:=[]}
 have hrel:Rel C ⟨1,0⟩ g' ⟨[(0,r)],heap',next'⟩ a w':=⟨⟨rfl,Marks.nil _ (uF _),fun t x hx'=>by
  simp only [za] at hx'
  split at hx'
  ·rename_i e;subst e;cases hx';exact hx
  ·cases hx'⟩,R'⟩
 obtain ⟨g2,R2,hE⟩:=hw C ⟨1,0⟩ g' a w' hrel
 exact ⟨v,r',h',n',g2,rfl,hK',hE g ⟨[],heap,next⟩ w hn E,R2.heap,R2.env.slot 0 r' rfl⟩
def G1 (rs:List dD) (r:AV) (heap:List (Nat×aF)) (n:Nat):Exit→St→Prop
 | .ret,st | .normal,st=>∃ x,jd rs st=some x∧bR ⟨[(0,x)],st.heap,st.next⟩ ⟨[(0,r)],heap,n⟩
 | _,_=>False
def Wo (m:Nat) (heap:List (Nat×aF)):Bool:=(List.range m).all fun i=>(za heap i).isSome
theorem G2 {m:Nat} {heap:List (Nat×aF)} (h:Wo m heap=true):∀ i,i < m→(za heap i).isSome=true:=fun i hi=>by
 simp only [Wo,ul,List.mem_range] at h
 exact h i hi
def zE:Nat:=1000000
def vA (b:Nat) (L:List Int):List AV:=[bif uJ b 2000000 then .aS b (L.map zb) else .ak (.slice (L.map zb))]
def qz:Nat→List (List Int)→List (List AV)
 | _,[]=>[]
 | b,L::r=>vA b L::qz (b+1) r
theorem kw:∀ (Ls:List (List Int)) (b k:Nat),(qz b Ls)[k]?=(Ls[k]?).map (vA (b+k))
 | [],b,k=>by simp [qz]
 | L::r,b,0=>by simp [qz]
 | L::r,b,k+1=>by
  simp only [qz,List.getElem?_cons_succ]
  rw [kw r (b+1) k,show b+1+k=b+(k+1) by omega]
theorem wz {b:Nat} (h:b < 2000000) (L:List Int):vA b L=[.aS b (L.map zb)]:=by
 have:uJ b 2000000=true:=by simpa [Nat.blt_eq] using h
 simp [vA,this]
theorem yY {b:Nat} (h:¬ b < 2000000) (L:List Int):vA b L=[.ak (.slice (L.map zb))]:=by
 have:uJ b 2000000=false:=by
  cases e:uJ b 2000000 with
  | false=>rfl
  | true=>exact absurd (by simpa [Nat.blt_eq] using e) h
 simp [vA,this]
theorem Pd {nx b:Nat} (h2:2000000≤nx) (L:List Int):∀ x∈vA b L,zZ nx x=true:=by
 intro x hx
 by_cases hb:b < 2000000
 ·rw [wz hb] at hx
  have:x=.aS b (L.map zb):=by simpa using hx
  subst this
  simp only [zZ,xz,zQ,decide_eq_true_eq];omega
 ·rw [yY hb] at hx
  have:x=.ak (.slice (L.map zb)):=by simpa using hx
  subst this;rfl
theorem Pe {nx:Nat} (h2:2000000≤nx) (Ls:List (List Int)) (b:Nat):z6 nx (.af 1 (qz b Ls)):=by
 intro row hrow x hx
 obtain ⟨k,hk⟩:=List.mem_iff_getElem?.1 hrow
 rw [kw] at hk
 obtain ⟨L,_,rfl⟩:=uc.1 hk
 exact Pd h2 L x hx
inductive cA (m:Nat):List (Nat×aF)→Prop where
 | nil:cA m []
 | exp {k:Nat} {o:aF} {r:List (Nat×aF)} (hk:decide (k < m)=true) (ho:Kh m o=true) (t:cA m r):cA m ((k,o)::r)
 | af {k sz:Nat} {α:Type} {f:α→List IV} {l:List α} {r:List (Nat×aF)} (hk:decide (k < m)=true) (t:cA m r):cA m ((k,.af sz (zc f l))::r)
 | cZ {k:Nat} {α β:Type} {kf:α→IV} {vf:β→IV} {es:List (α×β)} {r:List (Nat×aF)} (hk:decide (k < m)=true) (t:cA m r):cA m ((k,.map (zp kf vf es))::r)
 | nest {k:Nat} {Ls:List (List Int)} {r:List (Nat×aF)} (hk:decide (k < m)=true) (hn:Nat.ble 2000000 m=true) (t:cA m r):cA m ((k,.af 1 (qz zE Ls))::r)
theorem cA.all {m:Nat} {l:List (Nat×aF)} (h:cA m l):∀ p∈l,p.1 < m∧z6 m p.2:=by
 induction h with
 | nil=>intro p hp;cases hp
 | exp hk ho t ih=>
  intro p hp
  rcases ue.1 hp with rfl | hp
  ·exact ⟨of_decide_eq_true hk,vX ho⟩
  ·exact ih p hp
 | af hk t ih=>
  intro p hp
  rcases ue.1 hp with rfl | hp
  ·exact ⟨of_decide_eq_true hk,wO _ _ _ _⟩
  ·exact ih p hp
 | cZ hk t ih=>
  intro p hp
  rcases ue.1 hp with rfl | hp
  ·exact ⟨of_decide_eq_true hk,OS _ _ _ _⟩
  ·exact ih p hp
 | nest hk hn t ih=>
  intro p hp
  rcases ue.1 hp with rfl | hp
  ·exact ⟨of_decide_eq_true hk,Pe (Nat.le_of_ble_eq_true hn) _ _⟩
  ·exact ih p hp
theorem dm.start {C:Ctx} {f:Nat} {F:dz} (hF:qr C f=some F.erase) {args:List AV} {heap bS:List (Nat×aF)} {m d:Nat} {r:AV} (hn:args.length≤F.nt) (b0:cA m heap) (b1:cA (m+d) bS) (hka:args.all (zZ m)=true) (Pf:zZ (m+d) r=true) (k0:Wo m heap=true) (k1:Wo m bS=true)
  (h:∀ B,cD C.plain ⟨F.nt,B⟩ F.body (G1 F.results r bS (m+d)) ⟨jn 0 args,heap,m⟩):dm C f args heap m r bS d where
 dB:=by
  have h1:bJ C f args heap m fun x hp n=>bR ⟨[(0,x)],hp,n⟩ ⟨[(0,r)],bS,m+d⟩:=bJ.enter hF hn (fun B=>qP (fun e st hk=>by
   cases e with
   | ret=>obtain ⟨x,h1,h2⟩:=hk;exact ⟨.inl rfl,x,h1,h2⟩
   | normal=>obtain ⟨x,h1,h2⟩:=hk;exact ⟨.inr rfl,x,h1,h2⟩
   | _=>exact hk.elim) (h B))
  exact h1.cC fun x hp n hw=>⟨r,bS,m+d,⟨rfl,rfl,rfl⟩,by omega,hw⟩
 k0:=b0.all
 ka:=fun x hx=>ul.1 hka x hx
 k1:=b1.all
 kr:=Pf
 all:=G2 k1
 AP:=G2 k0
section
section
variable {C:Ctx} {g g':Gh} {h h':Nat→Option aF} {N N':Nat→Prop} {w w':World} {id:Nat}
theorem G3 {st:St} {t:Nat} {x y:AV} {aN:List (Nat×aF)} (ht:za st.env t=some x)
  (hg:∀ (C:Ctx) (g:Gh) (w:World) (v:Value),RH C g (za st.heap) (· < st.next) w→RV C g (za st.heap) (· < st.next) w x v→Good C g (za st.heap) (· < st.next) w st.next y aN v w) :
  bR st ⟨zk st.env t y,zL aN st.heap,st.next+1⟩:=by
 intro C nt g a w R
 obtain ⟨g',E,H,hv⟩:=hg C g w _ R.heap (R.env.slot t x ht)
 rw [jW] at E H hv
 rw [←jN] at E H hv
 refine ⟨g',⟨⟨R.env.size,R.env.defers.eN E,fun t' z hz => ?_⟩,H⟩,fun g0 cM w0 hm E0=>E0.trans E⟩
 rw [zm] at hz
 split at hz
 ·rename_i e;subst e;cases hz;exact hv
 ·exact (R.env.slot t' z hz).mono E
theorem Xz {st:St} {t:Nat} (sz:Nat) (ht:za st.env t=some .nil):bR st ⟨zk st.env t (.Zai st.next 0 0),zL [(st.next,.af sz [])] st.heap,st.next+1⟩:=
 G3 ht fun C g w v R hv=>by rw [xi hv];exact K0 R (um _) sz
theorem G4 {st:St} {t i len sz:Nat} {af:List (List AV)} (ht:za st.env t=some (.Zai i 0 len)) (ho:za st.heap i=some (.af sz af)) (hl:len=af.length) :
  bR st ⟨zk st.env t (.Zai st.next 0 len),zL [(st.next,.af sz af),(i,.dead)] st.heap,st.next+1⟩:=
 G3 ht fun C g w v R hv=>FN R (um _) hv ho hl
theorem Pg (st:St) (n:Nat) (hn:st.next≤n):bR st ⟨st.env,st.heap,n⟩:=by
 intro C nt g a w R
 have E:b8 g (za st.heap) (· < st.next) w g (za st.heap) (· < n) w:={b8.refl g (za st.heap) (· < st.next) w with
  next:=fun i hi=>ut hi hn}
 refine ⟨g,⟨⟨R.env.size,R.env.defers,fun t x hx=>(R.env.slot t x hx).mono E⟩,⟨R.heap.inj,fun i b hb=>⟨(R.heap.lt i b hb).1,ut (R.heap.lt i b hb).2 hn⟩,fun i o ho=>ut (R.heap.key i o ho) hn,fun i b o hb ho=>(R.heap.obj i b o hb ho).keep E rfl rfl,R.heap.cR,R.heap.ea,R.heap.fix.eN E⟩⟩,fun g0 cM w0 hm E0=>E0.trans E⟩
theorem bR.trans {s1 s2 s3:St} (h1:bR s1 s2) (h2:bR s2 s3) (hn:s3.next≤s2.next∨True):∀ (C:Ctx) (nt:Fr) (g:Gh) (a:Act) (w:World),Rel C nt g s1 a w→∃ g',Rel C nt g' s3 a w∧∀ g0 cM w0,cM.next≤s2.next→cM.next≤s3.next→dI g0 cM w0 g s1 w→dI g0 cM w0 g' s3 w:=by
 intro C nt g a w R
 obtain ⟨g1,R1,e1⟩:=h1 C nt g a w R
 obtain ⟨g2,R2,e2⟩:=h2 C nt g1 a w R1
 exact ⟨g2,R2,fun g0 cM w0 a1 a2 E=>e2 g0 cM w0 a2 (e1 g0 cM w0 a1 E)⟩
theorem bJ.oB {f:Nat} {rest:List AV} {heap:List (Nat×aF)} {next:Nat} {K:AV→List (Nat×aF)→Nat→Prop} (h1:bJ C f (.nil::rest) heap next K) (h2:bJ C f (.cx::rest) heap next K):bJ C f (.ak (.slice [])::rest) heap next K:=by
 refine ⟨h1.1,fun g w vs R hv => ?_⟩
 obtain ⟨hl,hv⟩:=hv
 cases vs with
 | nil=>simp at hl
 | cons v vs=>
  have fY:=hv 0 _ v rfl rfl
  have key:∀ x,RV C g (za heap) (· < next) w x v→nG C g (za heap) (· < next) w (x::rest) (v::vs):=fun x hx=>⟨by simpa using hl,fun j y u hj hu=>by
   cases j with
   | zero=>simp at hj hu;subst hj hu;exact hx
   | succ j=>exact hv (j+1) y u hj hu⟩
  cases fY with
  | ak _ _ hr=>
   cases hr with
   | nil=>exact h1.2 g w _ R (key _ .nil)
   | empty a cap=>exact h2.2 g w _ R (key _ (.cx a cap))
   | slice _ b off cap sz cv hcap=>exact h2.2 g w _ R (key _ (.cx ⟨b,off,none⟩ cap))
def jP (sz bL:Nat) (zero:List AV):dz:=⟨8,[.tmp 2],(
 .seq (.region false [] [⟨some 2,.dl (.c (.nil)),none⟩] (some [0])) (
  .seq (.seq (.region false [] [⟨some 3,.dl (.t 0),none⟩,⟨some 4,.eZ false (.t 3) (.c (.nil)),none⟩] (some [0,4])) (
    .cond (.t 4) (.seq (.region false [] [⟨some 2,.dl (.c (.nil)),none⟩] (some [2])) (.ret)) (.skip))) (
   .seq (.region false [] [⟨some 5,.cY sz zero 0 [],none⟩,⟨some 6,.dl (.t 0),none⟩,⟨some 7,.app sz bL (.t 5) (.t 6),none⟩,⟨some 2,.dl (.t 7),none⟩] (some [2])) (.ret))))⟩
def zR {α:Type} (bL:Nat) (l:List α):Option (List α):=if l.length*bL≤140737488355328 then some l else none
theorem ez {α:Type} {n sz bL:Nat} {zero:List AV} (hF:qr C n=some (jP sz bL zero).erase) (f:α→List IV) (hf:∀ x,(f x).length=sz) {l e:List α} (h:zR bL l=some e) :
  dm C n [.ak (.slice (uh f l))] [] 0 (.Zai 7 0 e.length) [(7,.af sz (zc f e))] 8:=by
 unfold zR at h
 split at h
 case isFalse=>cases h
 rename_i hb
 cases h
 refine ⟨?_,by simp,by simp [zZ,xz,zQ],?_,by simp [zZ,xz,zQ],by simp,by simp⟩
 ·unfold Dl
  cases l with
  | nil=>
   refine bJ.oB ?_ ?_
   ·have h1:bJ C n [.nil] [] 0 fun r hp nx=>r=.nil∧hp=[]∧nx=4:=by
     refine bJ.run hF (by simp [jP]) (fun B => ?_)
     simp [jP]
    refine (h1.cC (K':=fun r hp nx=>r=.nil∧hp=[]∧nx=7) ?_).cC ?_
    ·rintro r hp nx ⟨rfl,rfl,rfl⟩
     exact ⟨_,_,_,⟨rfl,rfl,rfl⟩,by omega,Pg _ 7 (by simp)⟩
    ·rintro r hp nx ⟨rfl,rfl,rfl⟩
     exact ⟨_,_,_,⟨rfl,rfl,rfl⟩,by omega,Xz (t:=0) sz rfl⟩
   ·have h1:bJ C n [.cx] [] 0 fun r hp nx=>r=.Zai 5 0 0∧hp=[(3,.dead),(5,.af sz [])]∧nx=7:=by
     refine bJ.run hF (by simp [jP]) (fun B => ?_)
     simp [jP,Je]
    refine (h1.cC (K':=fun r hp nx=>r=.Zai 7 0 0∧hp=[(3,.dead),(5,.dead),(7,.af sz [])]∧nx=8) ?_).cC ?_
    ·rintro r hp nx ⟨rfl,rfl,rfl⟩
     exact ⟨_,_,_,⟨rfl,rfl,rfl⟩,by omega,G4 (t:=0) (i:=5) (len:=0) (sz:=sz) (af:=[]) rfl rfl rfl⟩
    ·rintro r hp nx ⟨rfl,rfl,rfl⟩
     exact ⟨_,_,_,⟨rfl,rfl,rfl⟩,by omega,G0 [0] [(7,true)] 8 [] [] cL.nil (by kernel_rfl)⟩
  | cons x xs=>
   have h1:bJ C n [.ak (.slice (uh f (x::xs)))] [] 0 fun r hp nx=>r=.Zai 5 0 (x::xs).length∧hp=[(3,.dead),(5,.af sz (zc f (x::xs)))]∧nx=7:=by
    refine bJ.run hF (by simp [jP]) (fun B => ?_)
    simp [jP,Je,hf]
    have hb':(xs.length+1)*bL≤140737488355328:=by simpa using hb
    rw [if_pos hb']
    simp [zc,zt,Function.comp_def]
   refine (h1.cC (K':=fun r hp nx=>r=.Zai 7 0 (x::xs).length∧hp=[(3,.dead),(5,.dead),(7,.af sz (zc f (x::xs)))]∧nx=8) ?_).cC ?_
   ·rintro r hp nx ⟨rfl,rfl,rfl⟩
    exact ⟨_,_,_,⟨rfl,rfl,rfl⟩,by omega,G4 (t:=0) (i:=5) (len:=(x::xs).length) (sz:=sz) (af:=zc f (x::xs)) rfl rfl (by simp [zc])⟩
   ·rintro r hp nx ⟨rfl,rfl,rfl⟩
    exact ⟨_,_,_,⟨rfl,rfl,rfl⟩,by omega,G0 [0] [(7,false)] 8 [] [] (cL.cons (wO 8 sz f (x::xs)) .nil) (by kernel_rfl)⟩
 ·intro p hp
  simp only [List.mem_singleton] at hp
  subst hp
  exact ⟨by omega,wO _ _ _ _⟩
end
end
section
def Zn (id:Nat) (af:List (List IV)):AV→AV
 | .Zai i o n=>if i=id then .ak (.slice af) else .Zai i o n
 | x=>x
def Zo (id off len:Nat):AV→List Prop
 | .Zai i o n=>if i=id then [o=off∧n=len] else []
 | _=>[]
def V7 (id off len:Nat):AV→List Prop
 | .agg cs=>cs.flatMap (Zo id off len)
 | .tuple cs=>cs.flatMap (Zo id off len)
 | x=>Zo id off len x
def Dy (id off len:Nat):aF→List Prop
 | .af _ rs=>rs.flatMap fun r=>r.flatMap (V7 id off len)
 | _=>[]
def Ki (id off len:Nat):List (Nat×AV)→List Prop
 | []=>[]
 | (_,x)::r=>V7 id off len x++Ki id off len r
def Vf (id off len:Nat) (ks:List Nat):List (Nat×aF)→List Prop
 | []=>[]
 | (k,o)::r=>(if ks.contains k then Dy id off len o else [])++Vf id off len ks r
theorem cL.mem {ps:List Prop} (h:cL ps) {p:Prop} (hp:p∈ps):p:=by
 induction h with
 | nil=>cases hp
 | cons h t ih=>
  rcases ue.1 hp with e | e
  ·rw [e];exact h
  ·exact ih e
theorem cL.sub {ps qs:List Prop} (h:cL ps) (hs:∀ p∈qs,p∈ps):cL qs:=by
 induction qs with
 | nil=>exact .nil
 | cons q qs ih=>exact .cons (h.mem (hs q (by simp))) (ih fun p hp=>hs p (by simp [hp]))
theorem G5 {id off len t:Nat} {x:AV}:∀ {env:List (Nat×AV)},za env t=some x→∀ p∈V7 id off len x,p∈Ki id off len env
 | [],h,p,hp=>by cases h
 | (k,y)::r,h,p,hp=>by
  simp only [za] at h
  simp only [Ki,ur]
  split at h
  ·cases h;exact .inl hp
  ·exact .inr (G5 h p hp)
theorem G6 {id off len i:Nat} {ks:List Nat} {o:aF} (hi:ks.contains i=true):∀ {heap:List (Nat×aF)},za heap i=some o→∀ p∈Dy id off len o,p∈Vf id off len ks heap
 | [],h,p,hp=>by cases h
 | (k,y)::r,h,p,hp=>by
  simp only [za] at h
  simp only [Vf,ur]
  split at h
  ·rename_i e;subst e;cases h;rw [if_pos hi];exact .inl hp
  ·exact .inr (G6 hi h p hp)
def Jv (id:Nat) (af:List (List IV)):AV→AV
 | .agg cs=>.agg (cs.map (Zn id af))
 | .tuple cs=>.tuple (cs.map (Zn id af))
 | x=>Zn id af x
def xM (id:Nat) (af:List (List IV)):aF→aF
 | .af sz rs=>.af sz (rs.map fun r=>r.map (Jv id af))
 | o=>o
def Jw (id:Nat) (af:List (List IV)) (ks:List Nat):List (Nat×aF)→List (Nat×aF)
 | []=>[]
 | (k,o)::r=>(k,if k=id then .dead else if ks.contains k then xM id af o else o)::Jw id af ks r
def Kj (id:Nat) (af:List (List IV)):List (Nat×AV)→List (Nat×AV)
 | []=>[]
 | (k,x)::r=>(k,Jv id af x)::Kj id af r
theorem V8 (id:Nat) (af:List (List IV)):∀ (env:List (Nat×AV)) (t:Nat),za (Kj id af env) t=(za env t).map (Jv id af)
 | [],t=>rfl
 | (k,x)::r,t=>by
  simp only [Kj,za]
  split
  ·rfl
  ·exact V8 id af r t
theorem Zc (id:Nat) (af:List (List IV)) (ks:List Nat):∀ (heap:List (Nat×aF)) (i:Nat),za (Jw id af ks heap) i=(za heap i).map fun o=>if i=id then .dead else if ks.contains i then xM id af o else o
 | [],i=>rfl
 | (k,o)::r,i=>by
  simp only [Jw,za]
  split
  ·rename_i e;subst e;rfl
  ·exact Zc id af ks r i
theorem WW {st:St} (id sz off len:Nat) (all af:List (List IV)) (ks:List Nat) (iI:List (List AV)) (ho:za st.heap id=some (.af sz iI)) (hrows:all.map (fun r=>r.map AV.ak)=iI) (hD:(all.drop off).take len=af) (AW:cL (Ki id off len st.env++Vf id off len ks st.heap)):bR st ⟨Kj id af st.env,Jw id af ks st.heap,st.next⟩:=by
 subst hrows
 intro C nt g a w R
 obtain ⟨RE,R⟩:=R
 let g':Gh:=⟨fun i=>if i=id then none else g.ρ i,fun b=>if g.ρ id=some b then max (g.Z b) (all.length*sz) else g.Z b⟩
 have hr:∀ i b,g'.ρ i=some b→i≠id∧g.ρ i=some b:=fun i b h=>by
  simp only [g'] at h
  split at h
  ·cases h
  ·exact ⟨‹_›,h⟩
 have hr':∀ i,i≠id→g'.ρ i=g.ρ i:=fun i h=>by simp only [g',if_neg h]
 have hz:∀ b,g.Z b≤g'.Z b:=fun b=>by simp only [g'];split<;>omega
 have gB:∀ b,¬ g.ρ id=some b→g'.Z b=g.Z b:=fun b h=>by simp only [g',if_neg h]
 have hh:∀ i o,za (Jw id af ks st.heap) i=some o→(i=id∧o=.dead)∨(i≠id∧∃ o0,za st.heap i=some o0∧(o=o0∨(ks.contains i=true∧o=xM id af o0))):=fun i o h=>by
  rw [Zc,uc] at h
  obtain ⟨o0,h1,h2⟩:=h
  split at h2
  ·rename_i e;exact .inl ⟨e,h2.symm⟩
  ·rename_i e
   split at h2
   ·rename_i hk;exact .inr ⟨e,o0,h1,.inr ⟨hk,h2.symm⟩⟩
   ·exact .inr ⟨e,o0,h1,.inl h2.symm⟩
 have E:b8 g (za st.heap) (· < st.next) w g' (za (Jw id af ks st.heap)) (· < st.next) w:={
  os:=rfl
  tape:=rfl
  output:=rfl
  size:=ug _
  old:=fun b _ hno=>⟨rfl,gB b fun e=>hno ⟨id,e⟩⟩
  own:=fun b ⟨i,hi⟩=>.inl ⟨i,(hr i b hi).2⟩
  cg:=hz
  cell:=iD.refl _ _
  shape:=fun b c e h=>⟨c,h,rfl⟩
  next:=fun _ h=>h
  eo:=fun i b hb o ho' hnd _=>by
   rcases hh i o ho' with ⟨_,h2⟩ | ⟨h1,_⟩
   ·exact absurd h2 hnd
   ·exact .inl (by rw [hr' i h1];exact hb)
  cJ:=fun i hb _ o ho' hnd=>by
   rcases hh i o ho' with ⟨_,h2⟩ | ⟨h1,_⟩
   ·exact absurd h2 hnd
   ·exact .inl (by rw [hr' i h1];exact hb)
  af:=fun i _ s r ho'=>by
   rcases hh i _ ho' with ⟨_,h2⟩ | ⟨_,o0,h2,h3 | ⟨_,h3⟩⟩
   ·cases h2
   ·subst h3;exact ⟨r,h2,rfl⟩
   ·cases o0<;>simp only [xM] at h3<;>cases h3
    exact ⟨_,h2,by simp⟩
  cS:=fun i _ s l ho'=>by
   rcases hh i _ ho' with ⟨_,h2⟩ | ⟨_,o0,h2,h3 | ⟨_,h3⟩⟩
   ·cases h2
   ·subst h3;exact ⟨l,h2,ug _⟩
   ·cases o0<;>simp only [xM] at h3<;>cases h3
    exact ⟨_,h2,ug _⟩
  maps:=fun i _ es ho'=>by
   rcases hh i _ ho' with ⟨_,h2⟩ | ⟨_,o0,h2,h3 | ⟨_,h3⟩⟩
   ·cases h2
   ·subst h3;exact ⟨es,h2⟩
   ·cases o0<;>simp only [xM] at h3<;>cases h3
    exact ⟨_,h2⟩
  fE:=fun i _ ll RR s pe ho'=>by
   rcases hh i _ ho' with ⟨_,h2⟩ | ⟨_,o0,h2,h3 | ⟨_,h3⟩⟩
   ·cases h2
   ·subst h3;exact ⟨s,pe,h2⟩
   ·cases o0<;>simp only [xM] at h3<;>cases h3
    exact ⟨_,_,h2⟩}
 have leaf:∀ {x:AV} {v:Value},cL (Zo id off len x)→RV C g (za st.heap) (· < st.next) w x v→RV C g' (za (Jw id af ks st.heap)) (· < st.next) w (Zn id af x) v:=by
  intro x v tS hv
  cases x with
  | Zai i off' len'=>
   simp only [Zn]
   split
   ·rename_i e
    subst e
    simp only [Zo,if_true] at tS
    obtain ⟨rfl,rfl⟩:=tS.one
    rw [←hD]
    cases hv with
    | Zai _ _ _ _ hid h1 hp=>
     obtain ⟨h2,h3⟩:=hp sz _ ho
     simp only [uG] at h2
     have hlen:((all.drop off').take len').length=len':=by rw [List.length_take,List.length_drop];omega
     rcases h3 with ⟨a1,a2,a3⟩ | ⟨b,cap,c,e,b1,b2,b3,b4,b5⟩
     ·simp only [List.map_eq_nil_iff] at a2
      subst a2 a3
      have:len'=0:=by simp at h2;omega
      subst this
      simp only [List.drop_nil,List.take_nil]
      exact .ak _ _ .nil
     ·subst b2
      have mC:=R.obj _ b _ b1 ho
      simp only [cH] at mC
      obtain ⟨z0,c2,e2,c3,c4,c5⟩:=mC
      rw [b4] at c3
      cases c3
      have cT:∀ (k:Nat) (row:List IV) (j:Nat) (y:IV),((all.drop off').take len')[k]?=some row→row[j]?=some y→all[off'+k]?=some row∧off'+k < all.length∧row.length=sz∧j < sz:=fun k row j y hk hj=>by
       have hk':k < len':=by rw [←hlen];exact (ua.1 hk).1
       rw [uC,if_pos hk',uD] at hk
       have hl:=c4 (off'+k) (row.map AV.ak) (by rw [ub,hk];rfl)
       simp only [uG] at hl
       exact ⟨hk,(ua.1 hk).1,hl,by rw [←hl];exact (ua.1 hj).1⟩
      refine .ak _ _ ?_
      have:=RI.slice (Z:=g'.Z) (w:=w) ((all.drop off').take len') b (off'*sz) cap sz (fun k j=>(c[(off'+k)*sz+j]?).getD default) (by rw [hlen];exact b3)
       (fun k row hk=>by
        have hk':k < len':=by rw [←hlen];exact (ua.1 hk).1
        rw [uC,if_pos hk',uD] at hk
        have hl:=c4 (off'+k) (row.map AV.ak) (by rw [ub,hk];rfl)
        simpa using hl)
       (fun k row j y hk hj=>by
        obtain ⟨q1,q2,q3,q4⟩:=cT k row j y hk hj
        have e1:off'*sz+k*sz+j=(off'+k)*sz+j:=by rw [uA]
        rw [e1]
        have e2:(off'+k+1)*sz≤all.length*sz:=uo _ q2
        rw [uA (off'+k) 1] at e2
        simp only [g',if_pos b1]
        omega)
       (fun k row j y hk hj=>by
        obtain ⟨q1,q2,q3,q4⟩:=cT k row j y hk hj
        obtain ⟨cv,u1,u2,u3⟩:=c5 (off'+k) (row.map AV.ak) j (.ak y) (by rw [ub,q1];rfl) (by rw [ub,hj];rfl)
        have e1:off'*sz+k*sz+j=(off'+k)*sz+j:=by rw [uA]
        rw [e1,qK b4,u1]
        exact ⟨rfl,u2⟩)
       (fun k row j y hk hj=>by
        obtain ⟨q1,q2,q3,q4⟩:=cT k row j y hk hj
        obtain ⟨cv,u1,u2,u3⟩:=c5 (off'+k) (row.map AV.ak) j (.ak y) (by rw [ub,q1];rfl) (by rw [ub,hj];rfl)
        rw [u1]
        cases u3 with
        | ak _ _ gl=>exact gl.mono hz (iD.refl _ _))
      rw [hlen] at this
      exact this
   ·exact hv.mono E
  | _=>exact hv.mono E
 have tr:∀ {x:AV} {v:Value},cL (V7 id off len x)→RV C g (za st.heap) (· < st.next) w x v→RV C g' (za (Jw id af ks st.heap)) (· < st.next) w (Jv id af x) v:=by
  intro x v tS hv
  cases x with
  | agg cs=>
   simp only [Jv]
   cases hv with
   | agg _ vs hl h1 cy=>
    refine .agg _ vs (by simpa using hl) h1 fun i y u e1 e2 => ?_
    rw [ub,uc] at e1
    obtain ⟨z,e1,rfl⟩:=e1
    exact leaf (tS.sub fun p hp=>un.2 ⟨z,uj e1,hp⟩) (cy i z u e1 e2)
  | tuple cs=>
   simp only [Jv]
   cases hv with
   | tuple _ vs hl cy=>
    refine .tuple _ vs (by simpa using hl) fun i y u e1 e2 => ?_
    rw [ub,uc] at e1
    obtain ⟨z,e1,rfl⟩:=e1
    exact leaf (tS.sub fun p hp=>un.2 ⟨z,uj e1,hp⟩) (cy i z u e1 e2)
  | Zai i o n=>exact leaf (x:=.Zai i o n) tS hv
  | _=>exact hv.mono E
 refine ⟨g',⟨⟨RE.size,RE.defers.eN E,fun t x hx => ?_⟩,⟨fun i j b h1 h2=>R.inj i j b (hr i b h1).2 (hr j b h2).2,fun i b h1=>R.lt i b (hr i b h1).2,fun i o h1 => ?_,fun i b o h1 h2 => ?_,fun i s l h1 h2 => ?_,fun b hb => ?_,R.fix.eN E⟩⟩,fun g0 cM w0 hm E0=>E0.trans E⟩
 ·simp only at hx
  rw [V8,uc] at hx
  obtain ⟨y,h1,rfl⟩:=hx
  exact tr (AW.sub fun p hp=>ur.2 (.inl (G5 h1 p hp))) (RE.slot t y h1)
 ·rcases hh i o h1 with ⟨h2,_⟩ | ⟨_,o0,h2,_⟩
  ·subst h2;exact R.key _ _ ho
  ·exact R.key i o0 h2
 ·obtain ⟨hne,h1⟩:=hr i b h1
  have o7:g'.Z b=g.Z b:=gB b fun e=>hne (R.inj _ _ b h1 e)
  rcases hh i o h2 with ⟨h3,_⟩ | ⟨_,o0,h3,h4 | ⟨hks,h4⟩⟩
  ·exact absurd h3 hne
  ·subst h4
   have hro:=R.obj i b _ h1 h3
   cases o with
   | af s r=>
    simp only [cH] at hro ⊢
    obtain ⟨a1,c,e,a2,a3,a4⟩:=hro
    refine ⟨by rw [o7];exact a1,c,e,a2,a3,fun k row j x u1 u2 => ?_⟩
    obtain ⟨cv,b1,b2,b3⟩:=a4 k row j x u1 u2
    exact ⟨cv,b1,b2,b3.mono E⟩
   | aT s l=>simp only [cH] at hro ⊢; rw [o7];exact hro
   | map es=>
    simp only [cH] at hro ⊢
    obtain ⟨a1,cG,clock,a2,a3,a4⟩:=hro
    refine ⟨by rw [o7];exact a1,cG,clock,a2,a3,fun k kk x u1 => ?_⟩
    obtain ⟨e,b1,b2,b3⟩:=a4 k kk x u1
    exact ⟨e,b1,b2,b3.mono E⟩
   | dead=>trivial
   | lp l R s pe=>simp only [cH] at hro ⊢; rw [o7];exact hro
  ·subst h4
   have hro:=R.obj i b _ h1 h3
   cases o0 with
   | af s r=>
    simp only [xM,cH] at hro ⊢
    obtain ⟨a1,c,e,a2,a3,a4⟩:=hro
    refine ⟨by rw [o7];exact a1,c,e,a2,fun k row u1 => ?_,fun k row j x u1 u2 => ?_⟩
    ·rw [ub,uc] at u1
     obtain ⟨z,u1,rfl⟩:=u1
     simpa using a3 k z u1
    ·rw [ub,uc] at u1
     obtain ⟨z,u1,rfl⟩:=u1
     rw [ub,uc] at u2
     obtain ⟨y,u2,rfl⟩:=u2
     obtain ⟨cv,b1,b2,b3⟩:=a4 k z j y u1 u2
     exact ⟨cv,b1,b2,tr (AW.sub fun p hp=>ur.2 (.inr (G6 hks h3 p (by simp only [Dy];exact un.2 ⟨z,uj u1,un.2 ⟨y,uj u2,hp⟩⟩)))) b3⟩
   | aT s l=>simp only [xM,cH] at hro ⊢; rw [o7];exact hro
   | map es=>
    simp only [xM,cH] at hro ⊢
    obtain ⟨a1,cG,clock,a2,a3,a4⟩:=hro
    refine ⟨by rw [o7];exact a1,cG,clock,a2,a3,fun k kk x u1 => ?_⟩
    obtain ⟨e,b1,b2,b3⟩:=a4 k kk x u1
    exact ⟨e,b1,b2,b3.mono E⟩
   | dead=>trivial
   | lp l R s pe=>simp only [xM,cH] at hro ⊢; rw [o7];exact hro
 ·rcases hh i _ h1 with ⟨_,h3⟩ | ⟨hne,o0,h3,h4 | ⟨_,h4⟩⟩
  ·cases h3
  ·subst h4;exact R.cR i s l h3 (by rw [←hr' i hne];exact h2)
  ·cases o0<;>simp only [xM] at h4<;>cases h4
   exact R.cR i s l h3 (by rw [←hr' i hne];exact h2)
 ·simp only [g'] at hb
  split at hb
  ·rename_i e;exact (R.lt id b e).1
  ·exact R.ea b hb
theorem G7 {α:Type} (f:α→List IV) (l:List α):((uh f l).drop 0).take l.length=uh f l:=by
 rw [uz,uw (by simp)]
theorem Ph {α:Type} (f:α→List IV) (l:List α) (n:Nat):((uh f l).drop 0).take n=uh f (List.take n l):=by
 rw [uz,uH]
theorem kx {α:Type} (f:α→List IV) (l:List α):(uh f l).map (fun r=>r.map AV.ak)=zc f l:=by
 simp only [zc,zt,uI];rfl
inductive mM:AV→AV→Prop where
 | refl (x:AV):mM x x
 | nil:mM .nil (.ak (.slice []))
 | aT (id:Nat) (af:List (List IV)):mM (.aS id af) (.ak (.slice af))
inductive eA:List AV→List AV→Prop where
 | nil:eA [] []
 | cons {x y:AV} {r s:List AV} (h:mM x y) (t:eA r s):eA (x::r) (y::s)
theorem eA.len {r s:List AV} (h:eA r s):r.length=s.length:=by
 induction h with
 | nil=>rfl
 | cons h t ih=>simp [ih]
theorem eA.get {r s:List AV} (h:eA r s):∀ (j:Nat) (y:AV),s[j]?=some y→∃ x,r[j]?=some x∧mM x y:=by
 induction h with
 | nil=>intro j y hj;simp at hj
 | cons h t ih=>
  intro j y hj
  cases j with
  | zero=>simp at hj;subst hj;exact ⟨_,by simp,h⟩
  | succ j=>simpa using ih j y (by simpa using hj)
theorem Pj {st:St} {α:Type} (id sz k:Nat) (row:List AV) (f:α→List IV) (z:α) (ho:za st.heap id=some (.af sz (ud k row))) (hle:eA row (zt (f z))):bR st ⟨st.env,zk st.heap id (.af sz (zc f (ud k z))),st.next⟩:=by
 intro C nt g a w R
 obtain ⟨RE,R⟩:=R
 have hlen:(zc f (ud k z)).length=(ud k row).length:=by simp [zc]
 have hh:∀ i o,za (zk st.heap id (.af sz (zc f (ud k z)))) i=some o→(i=id∧o=.af sz (zc f (ud k z)))∨(i≠id∧za st.heap i=some o):=fun i o h=>by
  rw [zm] at h
  split at h
  ·rename_i e;exact .inl ⟨e.symm,by cases h;rfl⟩
  ·rename_i e;exact .inr ⟨fun e2=>e e2.symm,h⟩
 have E:b8 g (za st.heap) (· < st.next) w g (za (zk st.heap id (.af sz (zc f (ud k z))))) (· < st.next) w:={b8.refl g (za st.heap) (· < st.next) w with
  eo:=fun i b hb _ _ _ _=>.inl hb
  cJ:=fun i hb _ _ _ _=>.inl hb
  af:=fun i _ s r h1=>by
   rcases hh i _ h1 with ⟨e1,e2⟩ | ⟨_,e2⟩
   ·subst e1;cases e2;exact ⟨_,ho,hlen.symm⟩
   ·exact ⟨r,e2,rfl⟩
  cS:=fun i _ s l h1=>by
   rcases hh i _ h1 with ⟨_,e2⟩ | ⟨_,e2⟩
   ·cases e2
   ·exact ⟨l,e2,ug _⟩
  maps:=fun i _ es h1=>by
   rcases hh i _ h1 with ⟨_,e2⟩ | ⟨_,e2⟩
   ·cases e2
   ·exact ⟨es,e2⟩
  fE:=fun i _ ll RR s pe h1=>by
   rcases hh i _ h1 with ⟨_,e2⟩ | ⟨_,e2⟩
   ·cases e2
   ·exact ⟨s,pe,e2⟩}
 refine ⟨g,⟨⟨RE.size,RE.defers,fun t x hx=>(RE.slot t x hx).mono E⟩,⟨R.inj,R.lt,fun i o h1 => ?_,fun i b o h1 h2 => ?_,fun i s l h1 h2 => ?_,R.ea,R.fix.eN E⟩⟩,fun g0 cM w0 hm E0=>E0.trans E⟩
 ·rcases hh i o h1 with ⟨e1,_⟩ | ⟨_,e2⟩
  ·subst e1;exact R.key _ _ ho
  ·exact R.key i o e2
 ·rcases hh i o h2 with ⟨e1,e2⟩ | ⟨_,e2⟩
  ·subst e1 e2
   have hro:=R.obj _ b _ h1 ho
   simp only [cH] at hro ⊢
   obtain ⟨a1,c,e,a2,a3,a4⟩:=hro
   have hrow:∀ (i:Nat) (r:List AV),(zc f (ud k z))[i]?=some r→(ud k row)[i]?=some row∧r=zt (f z):=fun i r hi=>by
    simp only [zc,List.map_replicate,List.getElem?_replicate] at hi ⊢
    split at hi
    ·rename_i hlt;rw [if_pos hlt];cases hi;exact ⟨rfl,rfl⟩
    ·cases hi
   refine ⟨a1,c,e,a2,fun i r hi => ?_,fun i r j x hi hj => ?_⟩
   ·obtain ⟨q1,q2⟩:=hrow i r hi
    rw [q2,←hle.len]
    exact a3 i row q1
   ·obtain ⟨q1,q2⟩:=hrow i r hi
    subst q2
    obtain ⟨y,q3,q4⟩:=hle.get j x hj
    obtain ⟨cv,b1,b2,b3⟩:=a4 i row j y q1 q3
    refine ⟨cv,b1,b2,?_⟩
    cases q4 with
    | refl=>exact b3.mono E
    | nil=>rw [xi b3];exact .ak _ _ .nil
    | aT=>cases b3 with | aS _ _ _ hr _ _=>exact .ak _ _ (hr.mono E.cg E.cell)
  ·exact (R.obj i b o h1 e2).keep E rfl rfl
 ·rcases hh i _ h1 with ⟨_,e2⟩ | ⟨_,e2⟩
  ·cases e2
  ·exact R.cR i s l e2 h2
inductive dV:List (List AV)→List (List AV)→Prop where
 | nil:dV [] []
 | cons {r s:List AV} {l m:List (List AV)} (h:eA r s) (t:dV l m):dV (r::l) (s::m)
theorem dV.len {l m:List (List AV)} (h:dV l m):l.length=m.length:=by
 induction h with
 | nil=>rfl
 | cons h t ih=>simp [ih]
theorem dV.get {l m:List (List AV)} (h:dV l m):∀ (j:Nat) (s:List AV),m[j]?=some s→∃ r,l[j]?=some r∧eA r s:=by
 induction h with
 | nil=>intro j y hj;simp at hj
 | cons h t ih=>
  intro j y hj
  cases j with
  | zero=>simp at hj;subst hj;exact ⟨_,by simp,h⟩
  | succ j=>simpa using ih j y (by simpa using hj)
theorem G8 {st:St} (id sz:Nat) (l m:List (List AV)) (ho:za st.heap id=some (.af sz l)) (hle:dV l m):bR st ⟨st.env,zk st.heap id (.af sz m),st.next⟩:=by
 intro C nt g a w R
 obtain ⟨RE,R⟩:=R
 have hh:∀ i o,za (zk st.heap id (.af sz m)) i=some o→(i=id∧o=.af sz m)∨(i≠id∧za st.heap i=some o):=fun i o h=>by
  rw [zm] at h
  split at h
  ·rename_i e;exact .inl ⟨e.symm,by cases h;rfl⟩
  ·rename_i e;exact .inr ⟨fun e2=>e e2.symm,h⟩
 have E:b8 g (za st.heap) (· < st.next) w g (za (zk st.heap id (.af sz m))) (· < st.next) w:={b8.refl g (za st.heap) (· < st.next) w with
  eo:=fun i b hb _ _ _ _=>.inl hb
  cJ:=fun i hb _ _ _ _=>.inl hb
  af:=fun i _ s r h1=>by
   rcases hh i _ h1 with ⟨e1,e2⟩ | ⟨_,e2⟩
   ·subst e1;cases e2;exact ⟨_,ho,hle.len⟩
   ·exact ⟨r,e2,rfl⟩
  cS:=fun i _ s l h1=>by
   rcases hh i _ h1 with ⟨_,e2⟩ | ⟨_,e2⟩
   ·cases e2
   ·exact ⟨l,e2,ug _⟩
  maps:=fun i _ es h1=>by
   rcases hh i _ h1 with ⟨_,e2⟩ | ⟨_,e2⟩
   ·cases e2
   ·exact ⟨es,e2⟩
  fE:=fun i _ ll RR s pe h1=>by
   rcases hh i _ h1 with ⟨_,e2⟩ | ⟨_,e2⟩
   ·cases e2
   ·exact ⟨s,pe,e2⟩}
 refine ⟨g,⟨⟨RE.size,RE.defers,fun t x hx=>(RE.slot t x hx).mono E⟩,⟨R.inj,R.lt,fun i o h1 => ?_,fun i b o h1 h2 => ?_,fun i s l h1 h2 => ?_,R.ea,R.fix.eN E⟩⟩,fun g0 cM w0 hm E0=>E0.trans E⟩
 ·rcases hh i o h1 with ⟨e1,_⟩ | ⟨_,e2⟩
  ·subst e1;exact R.key _ _ ho
  ·exact R.key i o e2
 ·rcases hh i o h2 with ⟨e1,e2⟩ | ⟨_,e2⟩
  ·subst e1 e2
   have hro:=R.obj _ b _ h1 ho
   simp only [cH] at hro ⊢
   obtain ⟨a1,c,e,a2,a3,a4⟩:=hro
   refine ⟨a1,c,e,a2,fun i r hi => ?_,fun i r j x hi hj => ?_⟩
   ·obtain ⟨q,q1,q2⟩:=hle.get i r hi
    rw [←q2.len];exact a3 i q q1
   ·obtain ⟨q,q1,q2⟩:=hle.get i r hi
    obtain ⟨y,q3,q4⟩:=q2.get j x hj
    obtain ⟨cv,b1,b2,b3⟩:=a4 i q j y q1 q3
    refine ⟨cv,b1,b2,?_⟩
    cases q4 with
    | refl=>exact b3.mono E
    | nil=>rw [xi b3];exact .ak _ _ .nil
    | aT=>cases b3 with | aS _ _ _ hr _ _=>exact .ak _ _ (hr.mono E.cg E.cell)
  ·exact (R.obj i b o h1 e2).keep E rfl rfl
 ·rcases hh i _ h1 with ⟨_,e2⟩ | ⟨_,e2⟩
  ·cases e2
  ·exact R.cR i s l e2 h2
open Classical in
noncomputable def rD {α:Type} (f:Nat→Option α):Option α:=if h:∃ r,∃ k,∀ k',k≤k'→f k'=some r then some h.choose else none
theorem Pk {α:Type} {f:Nat→Option α} {r:α} (h:rD f=some r):∃ k,f k=some r:=by
 unfold rD at h
 split at h
 ·rename_i hh
  cases h
  obtain ⟨k,hk⟩:=hh.choose_spec
  exact ⟨k,hk k (ug _)⟩
 ·cases h
theorem Pm {α:Type} {f:Nat→Option α} {r:α} (k:Nat) (h:∀ k',k≤k'→f k'=some r):rD f=some r:=by
 unfold rD
 have hh:∃ r,∃ k,∀ k',k≤k'→f k'=some r:=⟨r,k,h⟩
 rw [dif_pos hh]
 obtain ⟨k2,hk2⟩:=hh.choose_spec
 have h1:=hk2 (max k k2) (Nat.le_max_right _ _)
 have h2:=h (max k k2) (Nat.le_max_left _ _)
 rw [h1] at h2;exact h2
section
variable {h:Nat→Option aF} {d:Nat}
theorem q9:aL (zD h d) []=some []:=rfl
theorem zB {x:AV} {y:IV} {xs:List AV} {ys:List IV} (h1:zD h d x=some y) (h2:aL (zD h d) xs=some ys):aL (zD h d) (x::xs)=some (y::ys):=by
 simp only [aL];rw [h1];simp only;rw [h2]
theorem qL (y:IV):zD h (d+1) (.ak y)=some y:=rfl
theorem Pn (i:Nat) (af:List (List IV)):zD h (d+1) (.aS i af)=some (.slice af):=rfl
theorem Zd {cs:List AV} {ys:List IV} (h1:aL (zD h d) cs=some ys):zD h (d+1) (.agg cs)=some (.agg ys):=by
 simp only [zD];rw [h1];rfl
theorem Dz {cs:List AV} {ys:List IV} (h1:aL (zD h d) cs=some ys):zD h (d+1) (.tuple cs)=some (.tuple ys):=by
 simp only [zD];rw [h1];rfl
theorem Po {α β:Type} (kf:α→IV) (vf:β→IV) (id:Nat) (es:List (α×β)) (ho:h id=some (.map (zp kf vf es))):zD h (d+2) (.map id)=some (qR kf vf (some es)):=Pa kf vf h d id es ho
theorem yZ {α:Type} (f:α→List IV) (id sz:Nat) (l:List α) (ho:h id=some (.af sz (zc f l))):zD h (d+2) (.Zai id 0 l.length)=some (.slice (uh f l)):=GY f h d id sz l ho
theorem Pp {rs:List dD} {d:Nat} {r:IV} {st:St} (x:AV) (hx:jd rs st=some x) (h:zD (za st.heap) d x=some r):Za rs (Xp d r) .ret st:=Pc (by rw [hx];exact h)
end
inductive o8:AV→AV→Prop where
 | refl (x:AV):o8 x x
 | nil:o8 .nil (.ak (.slice []))
 | aT (id:Nat) (af:List (List IV)):o8 (.aS id af) (.ak (.slice af))
 | agg {r s:List AV} (h:eA r s):o8 (.agg r) (.agg s)
 | tuple {r s:List AV} (h:eA r s):o8 (.tuple r) (.tuple s)
theorem mM.rv {C:Ctx} {g:Gh} {h:Nat→Option aF} {N:Nat→Prop} {w:World} {x y:AV} {v:Value} (hl:mM x y) (hv:RV C g h N w x v):RV C g h N w y v:=by
 cases hl with
 | refl=>exact hv
 | nil=>rw [xi hv];exact .ak _ _ .nil
 | aT=>cases hv with | aS _ _ _ hr _ _=>exact .ak _ _ hr
theorem o8.rv {C:Ctx} {g:Gh} {h:Nat→Option aF} {N:Nat→Prop} {w:World} {x y:AV} {v:Value} (hl:o8 x y) (hv:RV C g h N w x v):RV C g h N w y v:=by
 cases hl with
 | refl=>exact hv
 | nil=>rw [xi hv];exact .ak _ _ .nil
 | aT=>cases hv with | aS _ _ _ hr _ _=>exact .ak _ _ hr
 | agg hr=>
  cases hv with
  | agg _ vs h1 h2 h3=>
   refine .agg _ vs (by rw [←hr.len];exact h1) h2 fun i c u e1 e2 => ?_
   obtain ⟨q,q1,q2⟩:=hr.get i c e1
   exact q2.rv (h3 i q u q1 e2)
 | tuple hr=>
  cases hv with
  | tuple _ vs h1 h3=>
   refine .tuple _ vs (by rw [←hr.len];exact h1) fun i c u e1 e2 => ?_
   obtain ⟨q,q1,q2⟩:=hr.get i c e1
   exact q2.rv (h3 i q u q1 e2)
inductive lS:List AV→List AV→Prop where
 | nil:lS [] []
 | cons {x y:AV} {r s:List AV} (h:o8 x y) (t:lS r s):lS (x::r) (y::s)
theorem lS.len {l m:List AV} (h:lS l m):l.length=m.length:=by
 induction h with
 | nil=>rfl
 | cons h t ih=>simp [ih]
theorem lS.get {l m:List AV} (h:lS l m):∀ (j:Nat) (s:AV),m[j]?=some s→∃ r,l[j]?=some r∧o8 r s:=by
 induction h with
 | nil=>intro j y hj;simp at hj
 | cons h t ih=>
  intro j y hj
  cases j with
  | zero=>simp at hj;subst hj;exact ⟨_,by simp,h⟩
  | succ j=>simpa using ih j y (by simpa using hj)
inductive nJ:AV→AV→Prop where
 | one {x y:AV} (h:o8 x y):nJ x y
 | Pq {r s:List AV} (h:lS r s):nJ (.tuple r) (.tuple s)
theorem nJ.rv {C:Ctx} {g:Gh} {h:Nat→Option aF} {N:Nat→Prop} {w:World} {x y:AV} {v:Value} (hl:nJ x y) (hv:RV C g h N w x v):RV C g h N w y v:=by
 cases hl with
 | one h=>exact h.rv hv
 | Pq hr=>
  cases hv with
  | tuple _ vs h1 h3=>
   refine .tuple _ vs (by rw [←hr.len];exact h1) fun i c u e1 e2 => ?_
   obtain ⟨q,q1,q2⟩:=hr.get i c e1
   exact q2.rv (h3 i q u q1 e2)
theorem Pr {x y:AV} {heap:List (Nat×aF)} {n:Nat} (hl:nJ x y):bR ⟨[(0,x)],heap,n⟩ ⟨[(0,y)],heap,n⟩:=by
 intro C nt g a w R
 refine ⟨g,⟨⟨R.env.size,R.env.defers,fun t z hz => ?_⟩,R.heap⟩,fun _ _ _ _ E=>E⟩
 simp only [za] at hz
 split at hz
 ·rename_i e;subst e;cases hz;exact hl.rv (R.env.slot 0 x rfl)
 ·cases hz
theorem bR.andThen {s1 s2 s3:St} (h1:bR s1 s2) (h2:bR s2 s3) (hn:s3.next≤s2.next):bR s1 s3:=by
 intro C nt g a w R
 obtain ⟨g1,R1,e1⟩:=h1 C nt g a w R
 obtain ⟨g2,R2,e2⟩:=h2 C nt g1 a w R1
 exact ⟨g2,R2,fun g0 cM w0 a1 E=>e2 g0 cM w0 a1 (e1 g0 cM w0 (ux a1 hn) E)⟩
theorem xh {h:Nat→Option aF} {d:Nat} {α:Type} (f:α→List IV) (id sz n:Nat) (l:List α) (hn:n=l.length) (ho:h id=some (.af sz (zc f l))):zD h (d+2) (.Zai id 0 n)=some (.slice (uh f l)):=by
 subst hn;exact GY f h d id sz l ho
theorem G9 {st:St} (id sz sz':Nat) (af:List (List AV)) (r j:Nat) (row:List AV) (ho:za st.heap id=some (.af sz af)) (hr:af[r]?=some row) (hj:row[j]?=some .nil) :
  bR st ⟨st.env,zk (zo st.heap st.next (.aT sz' 0)) id (.af sz (af.set r (row.set j (.aS st.next [])))),st.next+1⟩:=by
 intro C nt g a w R
 have DA:id < st.next:=R.heap.key _ _ ho
 obtain ⟨g',E,H,hv⟩:=Xd (id:=st.next) R.heap (um _) sz'
 rw [jW] at E H hv
 have e1:bB [(st.next,aF.aT sz' 0)] (za st.heap)=za (zo st.heap st.next (.aT sz' 0)):=by
  funext i;simp only [bB,zr]
 rw [e1] at E H hv
 have ho':za (zo st.heap st.next (.aT sz' 0)) id=some (.af sz af):=by rw [zr,if_neg (by omega)];exact ho
 have hh:∀ i o,za (zk (zo st.heap st.next (.aT sz' 0)) id (.af sz (af.set r (row.set j (.aS st.next []))))) i=some o→(i=id∧o=.af sz (af.set r (row.set j (.aS st.next []))))∨(i≠id∧za (zo st.heap st.next (.aT sz' 0)) i=some o):=fun i o h=>by
  rw [zm] at h
  split at h
  ·rename_i e;exact .inl ⟨e.symm,by cases h;rfl⟩
  ·rename_i e;exact .inr ⟨fun e2=>e e2.symm,h⟩
 have E2:b8 g' (za (zo st.heap st.next (.aT sz' 0))) (· < st.next+1) w g' (za (zk (zo st.heap st.next (.aT sz' 0)) id (.af sz (af.set r (row.set j (.aS st.next [])))))) (· < st.next+1) w:={b8.refl g' (za (zo st.heap st.next (.aT sz' 0))) (· < st.next+1) w with
  eo:=fun i b hb _ _ _ _=>.inl hb
  cJ:=fun i hb _ _ _ _=>.inl hb
  af:=fun i _ s q h1=>by
   rcases hh i _ h1 with ⟨e1,e2⟩ | ⟨_,e2⟩
   ·subst e1;cases e2;exact ⟨_,ho',by simp⟩
   ·exact ⟨q,e2,rfl⟩
  cS:=fun i _ s l h1=>by
   rcases hh i _ h1 with ⟨_,e2⟩ | ⟨_,e2⟩
   ·cases e2
   ·exact ⟨l,e2,ug _⟩
  maps:=fun i _ es h1=>by
   rcases hh i _ h1 with ⟨_,e2⟩ | ⟨_,e2⟩
   ·cases e2
   ·exact ⟨es,e2⟩
  fE:=fun i _ ll RR s pe h1=>by
   rcases hh i _ h1 with ⟨_,e2⟩ | ⟨_,e2⟩
   ·cases e2
   ·exact ⟨s,pe,e2⟩}
 refine ⟨g',⟨⟨R.env.size,(R.env.defers.eN E).eN E2,fun t x hx=>((R.env.slot t x hx).mono E).mono E2⟩,⟨H.inj,H.lt,fun i o h1 => ?_,fun i b o h1 h2 => ?_,fun i s l h1 h2 => ?_,H.ea,H.fix.eN E2⟩⟩,fun g0 cM w0 hm E0=>b8.trans (b8.trans E0 E) E2⟩
 ·rcases hh i o h1 with ⟨e1,_⟩ | ⟨_,e2⟩
  ·subst e1;exact H.key _ _ ho'
  ·exact H.key i o e2
 ·rcases hh i o h2 with ⟨e1,e2⟩ | ⟨_,e2⟩
  ·subst e1 e2
   have hro:=H.obj _ b _ h1 ho'
   simp only [cH] at hro ⊢
   obtain ⟨a1,c,e,a2,a3,a4⟩:=hro
   have hrl:r < af.length:=(ua.1 hr).1
   have hjl:j < row.length:=(ua.1 hj).1
   refine ⟨a1,c,e,a2,fun i q hi => ?_,fun i q k x hi hk => ?_⟩
   ·rw [uk] at hi
    split at hi
    ·rename_i e3;subst e3;cases hi;simpa using a3 _ row hr
    ·exact a3 i q hi
   ·rw [uk] at hi
    split at hi
    ·rename_i e3
     subst e3
     cases hi
     rw [uk] at hk
     split at hk
     ·rename_i e4
      subst e4
      cases hk
      obtain ⟨cv,b1,b2,b3⟩:=a4 _ row _ .nil hr hj
      refine ⟨cv,b1,b2,?_⟩
      rw [xi b3]
      exact hv.mono E2
     ·obtain ⟨cv,b1,b2,b3⟩:=a4 _ row k x hr hk
      exact ⟨cv,b1,b2,b3.mono E2⟩
    ·obtain ⟨cv,b1,b2,b3⟩:=a4 i q k x hi hk
     exact ⟨cv,b1,b2,b3.mono E2⟩
  ·exact (H.obj i b o h1 e2).keep E2 rfl rfl
 ·rcases hh i _ h1 with ⟨_,e2⟩ | ⟨_,e2⟩
  ·cases e2
  ·exact H.cR i s l e2 h2
end
def He {σ ρ γ:Type} (Ok:σ→γ→Prop) (W:σ→γ→St) (K:Exit→St→Prop) (out:σ ⊕ ρ) (o:σ ⊕ ρ):Exit→St→Prop
 | .normal,st=>∃ s' c',o=.inl s'∧Ok s' c'∧bR st (W s' c')
 | e,st=>∃ y,o=.inr y∧(out=.inr y→K e st)
theorem Pt {C:bA} {nt:Fr} {x:cB} {K:Exit→St→Prop} {st:St} {σ ρ γ:Type} {n:Int} {f:Nat→σ→Option (σ ⊕ ρ)} {s0:σ} {out:σ ⊕ ρ} (hl:aD n f s0=some out)
  (Ok:Nat→σ→γ→Prop) (S:Nat→σ→γ→St) (hmin:∀ i s c,Ok i s c→st.next≤(S i s c).next) (c0:γ) (oC:Ok 0 s0 c0) (hn0:(S 0 s0 c0).next=st.next) (h0:bR st (S 0 s0 c0))
  (body:∀ (i:Nat) (s:σ) (c:γ) (o:σ ⊕ ρ),Ok i s c→(i:Int) < n→IntKind.i64.wrap ((i:Int)+1)=(i:Int)+1→f i s=some o→cD C nt x (He (Ok (i+1)) (S (i+1)) K out o) (S i s c))
  (last:∀ (m:Nat) (s:σ) (c:γ),Ok m s c→¬ (m:Int) < n→out=.inl s→cD C nt x (vT (fun _=>False) K) (S m s c)):cD C nt (.loop x) K st:=by
 obtain ⟨hn,hl⟩:=Xr hl
 refine Jk (ι:={p:Nat×σ×γ // p.1≤n.toNat∧bG f p.1 (n.toNat - p.1) p.2.1=some out∧Ok p.1 p.2.1 p.2.2}) (fun p=>S p.1.1 p.1.2.1 p.1.2.2) (fun p=>n.toNat - p.1.1) ⟨(0,s0,c0),uF _,hl,oC⟩ (fun p=>by rw [hn0];exact hmin _ _ _ p.2.2.2) h0 (Nat.le_of_eq hn0.symm) ?_
 rintro ⟨⟨i,s,c⟩,hi,hf,hok⟩
 simp only at hi hf hok
 rcases Nat.lt_or_ge i n.toNat with h | h
 ·obtain ⟨k,hk⟩:∃ k,n.toNat - i=k+1:=⟨n.toNat - i - 1,by omega⟩
  rw [hk] at hf
  simp only [bG] at hf
  split at hf
  ·cases hf
  ·rename_i r hr
   cases hf
   refine qP ?_ (body i s c _ hok (by omega) (qw (by omega) (by omega)) hr)
   intro e aY hK
   cases e with
   | normal=>obtain ⟨s',_,h1,_⟩:=hK;cases h1
   | _=>obtain ⟨y,h1,h2⟩:=hK;cases h1;exact h2 rfl
  ·rename_i s' hr
   refine qP ?_ (body i s c _ hok (by omega) (qw (by omega) (by omega)) hr)
   intro e aY hK
   cases e with
   | normal=>
    obtain ⟨s'',pZ,h1,h2,h3⟩:=hK
    cases h1
    exact ⟨⟨(i+1,s',pZ),h,by simp only;rw [show n.toNat - (i+1)=k by omega];exact hf,h2⟩,by simp only;omega,h3⟩
   | _=>obtain ⟨y,h1,h2⟩:=hK;cases h1
 ·obtain rfl:i=n.toNat:=by omega
  simp only [Nat.sub_self,bG,Option.some.injEq] at hf
  refine qP ?_ (last n.toNat s c hok (by omega) hf.symm)
  intro e aY hK
  cases e with
  | normal=>exact hK.elim
  | _=>exact hK
def qe (qs:List Nat) (Ls:List (List Int)):List (List AV):=List.zipWith (fun q L=>[AV.aS q (L.map zb)]) qs Ls
structure dn (heap:List (Nat×aF)) (N P:Nat) (qs:List Nat) (Ls:List (List Int)):Prop where
 obj:za heap P=some (.af 1 (qe qs Ls))
 aT:∀ (k q:Nat) (L:List Int),qs[k]?=some q→Ls[k]?=some L→za heap q=some (.aT 1 L.length)
 len:qs.length=Ls.length
 nd:∀ (i j q:Nat),qs[i]?=some q→qs[j]?=some q→i=j
theorem WX {qs:List Nat} {Ls:List (List Int)} (h:qs.length=Ls.length):(qe qs Ls).length=Ls.length:=by simp [qe,h]
theorem V9:∀ (qs:List Nat) (Ls:List (List Int)),qs.length=Ls.length→dV (qe qs Ls) (zc (zH zb) Ls)
 | [],[],_=>.nil
 | q::qs,L::Ls,h=>.cons (.cons (.aT q (L.map zb)) .nil) (V9 qs Ls (by simpa using h))
theorem WY {qs:List Nat} {Ls:List (List Int)} {k q:Nat} {L:List Int} (h1:qs[k]?=some q) (h2:Ls[k]?=some L):(qe qs Ls)[k]?=some [.aS q (L.map zb)]:=by
 simp [qe,List.getElem?_zipWith,h1,h2]
theorem WZ:∀ (qs:List Nat) (Ls:List (List Int)) (k q:Nat) (L:List Int),qs[k]?=some q→(qe qs Ls).set k [.aS q (L.map zb)]=qe qs (Ls.set k L)
 | [],Ls,k,q,L,h=>by simp at h
 | q'::qs,[],k,q,L,h=>by simp [qe]
 | q'::qs,L'::Ls,0,q,L,h=>by simp at h;subst h;rfl
 | q'::qs,L'::Ls,k+1,q,L,h=>by
  have:=WZ qs Ls k q L (by simpa using h)
  simp only [qe,List.zipWith_cons_cons,List.set_cons_succ] at this ⊢
  rw [this]
theorem Pu (qs:List Nat) (Ls:List (List Int)) (q:Nat) (L:List Int) (h:qs.length=Ls.length):qe (qs++[q]) (Ls++[L])=qe qs Ls++[[.aS q (L.map zb)]]:=by
 simp [qe,List.zipWith_append h]
theorem dn.grow {heap heap':List (Nat×aF)} {N N' P:Nat} {qs:List Nat} {Ls:List (List Int)} (h:dn heap N P qs Ls) {k q:Nat} {L:List Int} (hq:qs[k]?=some q) (hP:za heap' P=some (.af 1 (qe qs (Ls.set k L)))) (hT:za heap' q=some (.aT 1 L.length))
  (hE:∀ j,j≠P→j≠q→(za heap j).isSome=true→za heap' j=za heap j):dn heap' N' P qs (Ls.set k L) where
 obj:=hP
 len:=by simp [h.len]
 nd:=h.nd
 aT:=fun k' q' L' h1 h2=>by
  by_cases e:k'=k
  ·subst e
   have hlt:k' < Ls.length:=by
    have:=(ua.1 h1).1;rw [h.len] at this;exact this
   rw [List.getElem?_set_self hlt] at h2
   cases h2
   rw [hq] at h1;cases h1
   exact hT
  ·rw [List.getElem?_set_ne (Ne.symm e)] at h2
   have h3:=h.aT k' q' L' h1 h2
   rw [hE q' (fun e2=>by rw [e2,h.obj] at h3;cases h3) (fun e2=>e (h.nd k' k q (by rw [←e2];exact h1) hq)) (by rw [h3];rfl)]
   exact h3
section
section
variable {C:Ctx} {g g':Gh} {h h':Nat→Option aF} {N N':Nat→Prop} {w w':World} {id:Nat}
theorem Ya (R:RH C g h N w) (hid:¬ N id) {i sz:Nat} {all:List (List IV)} (hi:h i=some (.af sz (all.map fun r=>r.map AV.ak))) {v0:Value} (fY:RV C g h N w (.Zai i 0 all.length) v0) :
  ∃ g',(∀ k,k≠id→k≠i→g'.ρ k=g.ρ k)∧(∀ b,g.Z b=0→g.ρ i≠some b→g'.Z b=0)∧b8 g h N w g' (bB [(i,.dead),(id,.aT sz all.length)] h) (qn N id) w∧RH C g' (bB [(i,.dead),(id,.aT sz all.length)] h) (qn N id) w∧RV C g' (bB [(i,.dead),(id,.aT sz all.length)] h) (qn N id) w (.aS id all) v0:=by
 have hN:=R.key i _ hi
 have hne:i≠id:=fun e=>hid (e ▸ hN)
 have mB:∀ k,N k→k≠id:=fun k hk e=>hid (e ▸ hk)
 let g':Gh:=⟨fun k=>if k=id then g.ρ i else if k=i then none else g.ρ k,fun b=>if g.ρ i=some b then all.length*sz else g.Z b⟩
 have gM:∀ b,g.ρ i=some b→g.Z b=0:=fun b hb=>(R.obj i b _ hb hi).1
 have Hf:∀ b,g.Z b≤g'.Z b:=fun b=>by
  simp only [g'];split
  ·rename_i e;rw [gM b e];exact uF _
  ·exact ug _
 have gB:∀ b,g.ρ i≠some b→g'.Z b=g.Z b:=fun b hb=>by simp only [g',if_neg hb]
 have gu:∀ k o,bB [(i,aF.dead),(id,aF.aT sz all.length)] h k=some o→(k=i∧o=.dead)∨(k=id∧o=.aT sz all.length)∨(k≠i∧k≠id∧h k=some o):=fun k o ho=>by
  simp only [bB] at ho
  split at ho
  ·rename_i e;cases ho;exact .inl ⟨e.symm,rfl⟩
  ·rename_i e
   split at ho
   ·rename_i e2;cases ho;exact .inr (.inl ⟨e2.symm,rfl⟩)
   ·rename_i e2;exact .inr (.inr ⟨fun e3=>e e3.symm,fun e3=>e2 e3.symm,ho⟩)
 have dU:∀ k,k≠id→k≠i→g'.ρ k=g.ρ k:=fun k h1 h2=>by simp only [g',if_neg h1,if_neg h2]
 have pL:g'.ρ id=g.ρ i:=by simp only [g',if_pos]
 have gl:g'.ρ i=none:=by simp only [g',if_neg hne,if_pos]
 have lT:∀ k b,g'.ρ k=some b→(k=id∧g.ρ i=some b)∨(k≠id∧k≠i∧g.ρ k=some b):=fun k b hk=>by
  by_cases h1:k=id
  ·subst h1;rw [pL] at hk;exact .inl ⟨rfl,hk⟩
  ·by_cases h2:k=i
   ·subst h2;rw [gl] at hk;cases hk
   ·rw [dU k h1 h2] at hk;exact .inr ⟨h1,h2,hk⟩
 have E:b8 g h N w g' (bB [(i,.dead),(id,.aT sz all.length)] h) (qn N id) w:={
  os:=rfl
  tape:=rfl
  output:=rfl
  size:=ug _
  old:=fun b _ hno=>⟨rfl,gB b fun e=>hno ⟨i,e⟩⟩
  own:=fun b ⟨k,hk⟩=>by
   rcases lT k b hk with ⟨_,h1⟩ | ⟨_,_,h1⟩
   ·exact .inl ⟨i,h1⟩
   ·exact .inl ⟨k,h1⟩
  cg:=Hf
  cell:=iD.refl _ _
  shape:=fun b c e hb=>⟨c,hb,rfl⟩
  next:=fun _ hk=>.inl hk
  eo:=fun k b hb o ho hnd hk=>by
   rcases gu k o ho with ⟨_,h2⟩ | ⟨h2,_⟩ | ⟨h1,h2,_⟩
   ·exact absurd h2 hnd
   ·exact absurd h2 (mB k hk)
   ·exact .inl (by rw [dU k h2 h1];exact hb)
  cJ:=fun k hb hk o ho hnd=>by
   rcases gu k o ho with ⟨_,h2⟩ | ⟨h2,_⟩ | ⟨h1,h2,_⟩
   ·exact absurd h2 hnd
   ·exact absurd h2 (mB k hk)
   ·exact .inl (by rw [dU k h2 h1];exact hb)
  af:=fun k hk s r ho=>by
   rcases gu k _ ho with ⟨_,h2⟩ | ⟨_,h2⟩ | ⟨_,_,h2⟩
   ·cases h2
   ·cases h2
   ·exact ⟨r,h2,rfl⟩
  cS:=fun k hk s l ho=>by
   rcases gu k _ ho with ⟨_,h2⟩ | ⟨h2,_⟩ | ⟨_,_,h2⟩
   ·cases h2
   ·exact absurd h2 (mB k hk)
   ·exact ⟨l,h2,ug _⟩
  maps:=fun k hk es ho=>by
   rcases gu k _ ho with ⟨_,h2⟩ | ⟨_,h2⟩ | ⟨_,_,h2⟩
   ·cases h2
   ·cases h2
   ·exact ⟨es,h2⟩
  fE:=fun k hk ll RR s pe ho=>by
   rcases gu k _ ho with ⟨_,h2⟩ | ⟨_,h2⟩ | ⟨_,_,h2⟩
   ·cases h2
   ·cases h2
   ·exact ⟨s,pe,h2⟩}
 have hval:(g.ρ i=none∧all=[]∧v0=.slice none 0 0)∨∃ b cap c e,g.ρ i=some b∧v0=.slice (some ⟨b,0,none⟩) all.length cap∧all.length≤cap∧w.heap[b]?=some (.cells c e (0,0))∧cap*sz≤c.size ∧
   (∀ row∈all,row.length=sz)∧∀ (k:Nat) (row:List IV) (j:Nat) (y:IV),all[k]?=some row→row[j]?=some y→∃ cv,c[k*sz+j]?=some cv∧cv.oneCell'=true∧RI g.Z w y cv:=by
  cases fY with
  | Zai _ _ _ _ _ _ hp=>
   obtain ⟨_,h2⟩:=hp sz _ hi
   rcases h2 with ⟨a1,a2,a3⟩ | ⟨b,cap,c,e,b1,b2,b3,b4,b5⟩
   ·exact .inl ⟨a1,by simpa using a2,a3⟩
   ·have mC:=R.obj i b _ b1 hi
    obtain ⟨z0,c2,e2,c3,c4,c5⟩:=mC
    rw [b4] at c3
    cases c3
    refine .inr ⟨b,cap,c,e,b1,by simpa using b2,b3,b4,by simpa using b5,fun row hr => ?_,fun k row j y hk hj => ?_⟩
    ·obtain ⟨k,hk⟩:=List.getElem?_of_mem hr
     have:=c4 k (row.map AV.ak) (by rw [ub,hk];rfl)
     simpa using this
    ·obtain ⟨cv,u1,u2,u3⟩:=c5 k (row.map AV.ak) j (.ak y) (by rw [ub,hk];rfl) (by rw [ub,hj];rfl)
     cases u3 with
     | ak _ _ gl=>exact ⟨cv,u1,u2,gl⟩
 refine ⟨g',dU,fun b h1 h2=>by rw [gB b h2];exact h1,E,⟨fun k l b hk hl => ?_,fun k b hk => ?_,fun k o ho => ?_,fun k b o hk ho => ?_,fun k s l ho hn => ?_,fun b hb => ?_,R.fix.eN E⟩,?_⟩
 ·rcases lT k b hk with ⟨h1,h2⟩ | ⟨h1,h2,h3⟩<;>rcases lT l b hl with ⟨h4,h5⟩ | ⟨h4,h5,h6⟩
  ·rw [h1,h4]
  ·exact absurd (R.inj _ _ b h6 h2) h5
  ·exact absurd (R.inj _ _ b h3 h5) h2
  ·exact R.inj _ _ b h3 h6
 ·rcases lT k b hk with ⟨h1,h2⟩ | ⟨h1,h2,h3⟩
  ·exact ⟨(R.lt i b h2).1,.inr h1⟩
  ·exact ⟨(R.lt k b h3).1,.inl (R.lt k b h3).2⟩
 ·rcases gu k o ho with ⟨h1,_⟩ | ⟨h1,_⟩ | ⟨_,_,h1⟩
  ·exact .inl (h1 ▸ hN)
  ·exact .inr h1
  ·exact .inl (R.key k o h1)
 ·rcases lT k b hk with ⟨h1,h2⟩ | ⟨h1,h2,h3⟩
  ·rcases gu k o ho with ⟨h4,_⟩ | ⟨_,h4⟩ | ⟨_,h4,_⟩
   ·exact absurd (h4.symm.trans h1) hne
   ·subst h4
    rcases hval with ⟨a1,_⟩ | ⟨b',cap,c,e,b1,b2,b3,b4,b5,b6,_⟩
    ·rw [a1] at h2;cases h2
    ·rw [b1] at h2;cases h2
     refine ⟨c,e,b4,by simp only [g',if_pos b1],ux (uo _ b3) b5⟩
   ·exact absurd h1 h4
  ·rcases gu k o ho with ⟨h4,_⟩ | ⟨h4,_⟩ | ⟨_,_,h4⟩
   ·exact absurd h4 h2
   ·exact absurd h4 h1
   ·exact (R.obj k b o h3 h4).keep E rfl (gB b fun e=>h2 (R.inj _ _ b h3 e))
 ·rcases gu k _ ho with ⟨_,h1⟩ | ⟨h1,h2⟩ | ⟨h1,h2,h3⟩
  ·cases h1
  ·cases h2
   rw [h1,pL] at hn
   rcases hval with ⟨_,a2,_⟩ | ⟨b,_,_,_,b1,_⟩
   ·rw [a2];rfl
   ·rw [b1] at hn;cases hn
  ·exact R.cR k s l h3 (by rw [←dU k h2 h1];exact hn)
 ·by_cases e:g.ρ i=some b
  ·exact (R.lt i b e).1
  ·rw [gB b e] at hb;exact R.ea b hb
 ·rcases hval with ⟨a1,a2,a3⟩ | ⟨b,cap,c,e,b1,b2,b3,b4,b5,b6,b7⟩
  ·subst a2 a3
   refine .aS id [] _ .nil (.inr rfl) fun s l hs => ?_
   rcases gu id _ hs with ⟨_,h1⟩ | ⟨_,h1⟩ | ⟨_,h1,_⟩
   ·cases h1
   ·cases h1
    exact ⟨ug _,fun k row hk=>by simp at hk,fun _=>.inl ⟨by rw [pL];exact a1,rfl⟩⟩
   ·exact absurd rfl h1
  ·subst b2
   have o7:g'.Z b=all.length*sz:=by simp only [g',if_pos b1]
   have tT:∀ (k:Nat) (row:List IV),all[k]?=some row→row.length=sz:=fun k row hk=>b6 row (uj hk)
   refine .aS id all _ ?_ (.inr rfl) fun s l hs => ?_
   ·refine .slice all b 0 cap sz (fun k j=>(c[k*sz+j]?).getD default) b3 tT (fun k row j y hk hj => ?_) (fun k row j y hk hj => ?_) (fun k row j y hk hj => ?_)
    ·have h1:=tT k row hk
     have h2:j < row.length:=(ua.1 hj).1
     have h3:k < all.length:=(ua.1 hk).1
     have h4:(k+1)*sz≤all.length*sz:=uo _ h3
     rw [uA] at h4
     rw [o7];omega
    ·obtain ⟨cv,u1,u2,u3⟩:=b7 k row j y hk hj
     rw [uv,qK b4,u1]
     exact ⟨rfl,u2⟩
    ·obtain ⟨cv,u1,u2,u3⟩:=b7 k row j y hk hj
     rw [u1]
     exact u3.mono Hf (iD.refl _ _)
   ·rcases gu id _ hs with ⟨_,h1⟩ | ⟨_,h1⟩ | ⟨_,h1,_⟩
    ·cases h1
    ·cases h1
     exact ⟨ug _,tT,fun _=>.inr ⟨b,cap,c,e,by rw [pL];exact b1,rfl,b4,b5⟩⟩
    ·exact absurd rfl h1
end
theorem Pv {st:St} (t a0 b0 id sz i sz':Nat) (af:List (List AV)) (r j:Nat) (row:List AV) (all:List (List IV)) (ht:za st.env t=some (.ptr id a0 b0)) (ho:za st.heap id=some (.af sz af)) (hr:af[r]?=some row) (hj:row[j]?=some (.Zai i 0 all.length))
  (hi:za st.heap i=some (.af sz' (all.map fun r=>r.map AV.ak))) (hne:i≠id) :
  bR st ⟨st.env,zk (zk (zo st.heap st.next (.aT sz' all.length)) i .dead) id (.af sz (af.set r (row.set j (.aS st.next all)))),st.next+1⟩:=by
 intro C nt g a w R
 have DA:id < st.next:=R.heap.key _ _ ho
 have hin:i < st.next:=R.heap.key _ _ hi
 obtain ⟨bo,AX,_⟩:∃ b,g.ρ id=some b∧True:=by
  have:=R.env.slot t _ ht
  cases this with
  | ptr _ _ _ _ _ _ hp=>obtain ⟨b,hb,_⟩:=hp _ _ ho;exact ⟨b,hb,trivial⟩
 obtain ⟨z0,c0,e0,k1,k2,k3⟩:=R.heap.obj id bo _ AX ho
 obtain ⟨Pw,q1,q2,q3⟩:=k3 r row j _ hr hj
 obtain ⟨g',dU,rT,E,H,hv⟩:=Ya (id:=st.next) R.heap (um _) hi q3
 rw [jW] at E H hv
 have e1:bB [(i,aF.dead),(st.next,aF.aT sz' all.length)] (za st.heap)=za (zk (zo st.heap st.next (.aT sz' all.length)) i .dead):=by
  funext k;simp only [bB,zm,zr]
 rw [e1] at E H hv
 obtain ⟨l8,AY⟩:∃ hp,hp=zk (zo st.heap st.next (.aT sz' all.length)) i .dead:=⟨_,rfl⟩
 rw [←AY] at E H hv ⊢
 have AZ:g'.ρ id=g.ρ id:=dU id (by omega) (fun e=>hne e.symm)
 have ho':za l8 id=some (.af sz af):=by rw [AY,zm,if_neg hne,zr,if_neg (by omega)];exact ho
 have hh:∀ k o,za (zk l8 id (.af sz (af.set r (row.set j (.aS st.next all))))) k=some o→(k=id∧o=.af sz (af.set r (row.set j (.aS st.next all))))∨(k≠id∧za l8 k=some o):=fun k o h=>by
  rw [zm] at h
  split at h
  ·rename_i e;exact .inl ⟨e.symm,by cases h;rfl⟩
  ·rename_i e;exact .inr ⟨fun e2=>e e2.symm,h⟩
 have E2:b8 g' (za l8) (· < st.next+1) w g' (za (zk l8 id (.af sz (af.set r (row.set j (.aS st.next all)))))) (· < st.next+1) w:={b8.refl g' (za l8) (· < st.next+1) w with
  eo:=fun i b hb _ _ _ _=>.inl hb
  cJ:=fun i hb _ _ _ _=>.inl hb
  af:=fun i _ s q h1=>by
   rcases hh i _ h1 with ⟨e1,e2⟩ | ⟨_,e2⟩
   ·subst e1;cases e2;exact ⟨_,ho',by simp⟩
   ·exact ⟨q,e2,rfl⟩
  cS:=fun i _ s l h1=>by
   rcases hh i _ h1 with ⟨_,e2⟩ | ⟨_,e2⟩
   ·cases e2
   ·exact ⟨l,e2,ug _⟩
  maps:=fun i _ es h1=>by
   rcases hh i _ h1 with ⟨_,e2⟩ | ⟨_,e2⟩
   ·cases e2
   ·exact ⟨es,e2⟩
  fE:=fun i _ ll RR s pe h1=>by
   rcases hh i _ h1 with ⟨_,e2⟩ | ⟨_,e2⟩
   ·cases e2
   ·exact ⟨s,pe,e2⟩}
 refine ⟨g',⟨⟨R.env.size,(R.env.defers.eN E).eN E2,fun t x hx=>((R.env.slot t x hx).mono E).mono E2⟩,⟨H.inj,H.lt,fun i o h1 => ?_,fun i b o h1 h2 => ?_,fun i s l h1 h2 => ?_,H.ea,H.fix.eN E2⟩⟩,fun g0 cM w0 hm E0=>b8.trans (b8.trans E0 E) E2⟩
 ·rcases hh i o h1 with ⟨e1,_⟩ | ⟨_,e2⟩
  ·subst e1;exact H.key _ _ ho'
  ·exact H.key i o e2
 ·rcases hh i o h2 with ⟨e1,e2⟩ | ⟨_,e2⟩
  ·rw [e1,AZ,AX] at h1
   have hro:=H.obj _ b _ (by rw [AZ,AX];exact h1) ho'
   cases h1
   subst e2
   simp only [cH] at hro ⊢
   obtain ⟨a1,c,e,a2,a3,a4⟩:=hro
   rw [k1] at a2
   cases a2
   have hrl:r < af.length:=(ua.1 hr).1
   have hjl:j < row.length:=(ua.1 hj).1
   refine ⟨a1,c0,e0,k1,fun i q hi => ?_,fun i q k x hi hk => ?_⟩
   ·rw [uk] at hi
    split at hi
    ·rename_i e3;subst e3;cases hi;simpa using a3 _ row hr
    ·exact a3 i q hi
   ·rw [uk] at hi
    split at hi
    ·rename_i e3
     subst e3
     cases hi
     rw [uk] at hk
     split at hk
     ·rename_i e4
      subst e4
      cases hk
      exact ⟨Pw,q1,q2,hv.mono E2⟩
     ·obtain ⟨cv,b1,b2,b3⟩:=a4 _ row k x hr hk
      exact ⟨cv,b1,b2,b3.mono E2⟩
    ·obtain ⟨cv,b1,b2,b3⟩:=a4 i q k x hi hk
     exact ⟨cv,b1,b2,b3.mono E2⟩
  ·exact (H.obj i b o h1 e2).keep E2 rfl rfl
 ·rcases hh i _ h1 with ⟨_,e2⟩ | ⟨_,e2⟩
  ·cases e2
  ·exact H.cR i s l e2 h2
theorem Px {st:St} (t i sz':Nat) (all:List (List IV)) (ht:za st.env t=some (.Zai i 0 all.length)) (hi:za st.heap i=some (.af sz' (all.map fun r=>r.map AV.ak))) :
  bR st ⟨zk st.env t (.aS st.next all),zk (zo st.heap st.next (.aT sz' all.length)) i .dead,st.next+1⟩:=by
 intro C nt g a w R
 obtain ⟨g',dU,rT,E,H,hv⟩:=Ya (id:=st.next) R.heap (um _) hi (R.env.slot t _ ht)
 rw [jW] at E H hv
 have e1:bB [(i,aF.dead),(st.next,aF.aT sz' all.length)] (za st.heap)=za (zk (zo st.heap st.next (.aT sz' all.length)) i .dead):=by
  funext k;simp only [bB,zm,zr]
 rw [e1] at E H hv
 refine ⟨g',⟨⟨R.env.size,R.env.defers.eN E,fun t' x hx => ?_⟩,H⟩,fun g0 cM w0 hm E0=>E0.trans E⟩
 rw [zm] at hx
 split at hx
 ·rename_i e
  subst e
  cases hx
  exact hv
 ·exact (R.env.slot t' x hx).mono E
end
section
def B4:List Nat→List AV→List (Nat×AV)→List (Nat×AV)
 | p::ps,x::xs,env=>B4 ps xs (zk env p x)
 | _,_,env=>env
def bA.round (C:bA) (l:Nat):bA:={C.toCtx with ro:=some l,eO:=none,Y:=tL,og:=fun _ _ _ _ _ _ _ _ h=>h,C3:=fun _ _ _ _ _ _ h=>h.elim}
def Py (dJ L:Nat) (R:LoopState→Option Code→Loop) (KK:AV→List (Nat×aF)→Nat→Prop):Exit→St→Prop
 | .normal,s=>za s.heap dJ=some (.lp L R .busy none)∧KK (.ak (.bool true)) (zk s.heap dJ (.lp L R .ready none)) (s.next+1)
 | .ret,s=>za s.heap dJ=some (.lp L R .busy none)∧KK (.ak (.bool false)) (zk s.heap dJ (.lp L R .done (some .ret))) (s.next+1)
 | .exit id,s=>za s.heap dJ=some (.lp L R .busy none)∧KK (.ak (.bool false)) (zk s.heap dJ (.lp L R .done (some (.exit id)))) (s.next+1)
 | _,_=>False
def Pz (C:bA) (nt:Fr) (dJ L:Nat) (R:LoopState→Option Code→Loop) (y:cB) (KK:AV→List (Nat×aF)→Nat→Prop) (s:St):Prop:=
 za s.heap dJ=some (.lp L R .ready none)∧cD (C.round L) nt y (Py dJ L R KK) ⟨s.env,zk s.heap dJ (.lp L R .busy none),s.next+1⟩
def QJ (C:bA) (nt:Fr) (env:List (Nat×AV)) (dJ L:Nat) (R:LoopState→Option Code→Loop) (ps:List Nat) (x y:cB):Nat→Nat→List AV→List (Nat×aF)→Nat→(AV→List (Nat×aF)→Nat→Prop)→Prop:=
 fun l id args heap next KK=>l=L∧id=dJ∧args.length=ps.length∧za heap dJ=some (.lp L R .ready none) ∧
  cD (C.round L) nt x (vT (Pz C nt dJ L R y KK) (fun _ _=>False)) ⟨B4 ps args env,heap,next⟩
def Hg (env:List (Nat×AV)) (dJ L:Nat) (R:LoopState→Option Code→Loop) (K:Exit→St→Prop) (heap:List (Nat×aF)) (next:Nat):Prop:=
 (za heap dJ=some (.lp L R .ready none)∧K .normal ⟨env,zk heap dJ (.lp L R .exhausted none),next+1⟩) ∨
 (za heap dJ=some (.lp L R .done (some .ret))∧K .ret ⟨env,zk heap dJ (.lp L R .exhausted (some .ret)),next+1⟩) ∨
 (∃ id,za heap dJ=some (.lp L R .done (some (.exit id)))∧K (.exit id) ⟨env,zk heap dJ (.lp L R .exhausted (some (.exit id))),next+1⟩)
section
variable {C:bA} {nt:Fr} {g g':Gh} {st:St} {a:Act} {w:World}
theorem PA {code:Code} {f:bf} {ps:List Nat} {x y:cB} (hc:comp C nt.n code=some (.range f ps x y)):∃ fo pM p q,code=.rangeFunc fo pM p q∧f=C.bk fo∧ps=pM.toList∧(∀ t∈ps,t < nt.n)∧comp C nt.n p=some x∧comp C nt.n q=some y:=by
 cases code<;>simp only [comp] at hc<;>(repeat' split at hc)<;>cases hc
 rename_i hall _ _ h1 h2
 exact ⟨_,_,_,_,rfl,rfl,rfl,fun t ht=>by have:=ul.1 hall t ht;simpa using this,h1,h2⟩
theorem Yb {env:List (Nat×AV)} {dJ L:Nat} {R:LoopState→Option Code→Loop} {ps:List Nat} {x y:cB}:∀ l id args heap next (K K':AV→List (Nat×aF)→Nat→Prop),(∀ r h n,K r h n→K' r h n)→QJ C nt env dJ L R ps x y l id args heap next K→QJ C nt env dJ L R ps x y l id args heap next K':=by
 rintro l id args heap next K K' hk ⟨h1,h2,h3,h4,h5⟩
 refine ⟨h1,h2,h3,h4,qP (fun e s hs => ?_) h5⟩
 cases e with
 | normal=>
  refine ⟨hs.1,qP (fun e s hs => ?_) hs.2⟩
  cases e with
  | normal=>exact ⟨hs.1,hk _ _ _ hs.2⟩
  | ret=>exact ⟨hs.1,hk _ _ _ hs.2⟩
  | exit id=>exact ⟨hs.1,hk _ _ _ hs.2⟩
  | _=>exact hs
 | _=>exact hs
theorem Hh {h:Nat→Option aF} {N:Nat→Prop}:∀ (ps:List Nat) (args:List AV) (vs:List Value) (env:List (Nat×AV)) (a:Act),(∀ t∈ps,t < nt.n)→RE C nt g env h N a w→nG C g h N w args vs →
  RE C nt g (B4 ps args env) h N {a with tmps:=(ps.zip vs).foldl (fun t pv=>t.setIfInBounds pv.1 pv.2) a.tmps} w
 | [],args,vs,env,a,_,R,_=>by cases args<;>exact R
 | p::ps,[],vs,env,a,_,R,hv=>by
  have:vs=[]:=uq hv.1.symm
  subst this
  exact R
 | p::ps,x::xs,[],env,a,_,R,hv=>by have:=hv.1;simp at this
 | p::ps,x::xs,v::vs,env,a,hp,R,hv=>by
  have R1:=R.put p (hp p (by simp)) (hv.2 0 x v rfl rfl)
  have:=Hh ps xs vs (zk env p x) (a.put (some p) v) (fun t ht=>hp t (by simp [ht])) R1 ⟨by have:=hv.1;simpa using this,fun j y u hj hu=>hv.2 (j+1) y u (by simpa using hj) (by simpa using hu)⟩
  exact this
theorem Kk {heap:List (Nat×aF)} {next:Nat} {dJ L:Nat} {R:LoopState→Option Code→Loop} {s s':LoopState} {pe lU:Option Code} (H:RH C g (za heap) (· < next) w) (ho:za heap dJ=some (.lp L R s pe)) (hρ:g.ρ dJ=some L) :
  w.heap[L]?=some (.loop (R s pe))∧b8 g (za heap) (· < next) w g (za (zk heap dJ (.lp L R s' lU))) (· < next+1) (w.putObj L (.loop (R s' lU)))∧RH C g (za (zk heap dJ (.lp L R s' lU))) (· < next+1) (w.putObj L (.loop (R s' lU))):=by
 have H0:=H.obj dJ L _ hρ ho
 obtain ⟨hz,_,hb⟩:=H0
 have E:=Wf (id:=next) H hρ hz (.lp L R s pe) (.lp L R s' lU) ho (.loop (R s' lU)) ⟨rfl,rfl⟩ (fun c e hc=>by rw [hb] at hc;cases hc)
 have hR:=VG (id:=next) H hρ (.lp L R s' lU) (.loop (R s' lU)) (fun _ _ h=>by cases h) E ⟨hz,rfl,by rw [zF w L _ (qf hb),if_pos rfl]⟩
 rw [jW] at E hR
 have e1:bB [(dJ,aF.lp L R s' lU)] (za heap)=za (zk heap dJ (.lp L R s' lU)):=by
  funext i;simp only [bB,zm]
 rw [e1] at E hR
 exact ⟨hb,E,hR⟩
theorem PB (hro:C.ro=none) {f:bf} {ps:List Nat} {x y:cB} {K:Exit→St→Prop} {gf:Nat} {bq:List AV} (hf:zd st.env f=.func gf [] bq) {F:dz} (hF:qr C gf=some F.erase) (hn:bq.length+1≤F.nt)
  (h:∀ (L:Nat) (R:LoopState→Option Code→Loop) (eO:Option (Gh×St×World)) ym yk (B:Nat),
   cD ⟨C.toCtx,none,eO,QJ C nt st.env st.next L R ps x y,ym,yk⟩ ⟨F.nt,B⟩ F.body (C8 F fun _ heap next=>Hg st.env st.next L R K heap next)
    ⟨jn 0 (.eE L st.next::bq),zk st.heap st.next (.lp L R .ready none),st.next+1⟩):cD C nt (.range f ps x y) K st:=by
 intro code hc g a w Rl hI
 obtain ⟨fo,pM,p,q,rfl,rfl,rfl,hps,hp,hq⟩:=PA hc
 rw [hro]
 refine wpIn_rangeFunc ?_
 intro fn _
 have hv:=Zx Rl fo
 rw [hf] at hv
 generalize hval:a.eval fo=v at hv
 cases hv with
 | func _ _ _ vf vc hlf hlc FV eV=>
 obtain rfl:vf=[]:=uq hlf.symm
 obtain ⟨R,o9⟩:∃ R:LoopState→Option Code→Loop,R=fun s pe=>{state:=s,pending:=pe,fn,tmps:=a.tmps,params:=pM,assign:=p,body:=q,defers:=w.heap.size}:=⟨_,rfl⟩
 have hRs:∀ s s' pe lU,{R s pe with state:=s',pending:=lU}=R s' lU:=fun s s' pe lU=>by rw [o9]
 have hB:Below w.heap.size w (w.alloc (.deferred (some []))):=(Below.refl _ w).alloc (ug _) _
 have E0:b8 g (za st.heap) (· < st.next) w g (za st.heap) (· < st.next) (w.alloc (.deferred (some []))):=wa Rl.heap hB (fun _ _=>rfl)
 have H0:RH C g (za st.heap) (· < st.next) (w.alloc (.deferred (some []))):=Zz Rl.heap hB (fun _ _=>rfl) (fun b hb=>by have:=Rl.heap.ea b hb;simp;omega)
 have hid:¬ (st.next < st.next):=um _
 have E1:=We (id:=st.next) H0 hid (.loop (R .ready none)) (.lp (w.heap.size+1) R .ready none) 0
 have H1:=CL (id:=st.next) H0 hid (.loop (R .ready none)) (.lp (w.heap.size+1) R .ready none) 0 ⟨by simp [Gh.at],by simp,zY _ _⟩
 have e1:bB [(st.next,aF.lp (w.heap.size+1) R .ready none)] (za st.heap)=za (zk st.heap st.next (.lp (w.heap.size+1) R .ready none)):=by
  funext i;simp only [bB,zm]
 rw [jW,e1] at E1 H1
 obtain ⟨W1,DB⟩:∃ W1,(w.alloc (.deferred (some []))).alloc (.loop (R .ready none))=W1:=⟨_,rfl⟩
 rw [DB] at E1 H1
 have hl:(w.alloc (.deferred (some []))).heap.size=w.heap.size+1:=by simp
 rw [hl] at E1 H1
 obtain ⟨g1,gj⟩:∃ g1,g.at st.next (w.heap.size+1) 0=g1:=⟨_,rfl⟩
 have hρ:g1.ρ st.next=some (w.heap.size+1):=by rw [←gj];simp [Gh.at]
 have hown:¬ vM g1 w.heap.size:=by
  rw [←gj]
  rintro ⟨i,hi⟩
  simp only [Gh.at] at hi
  split at hi
  ·have:=Option.some.inj hi;omega
  ·have:=(Rl.heap.lt i _ hi).1;omega
 rw [gj] at E1 H1
 have sG:=b8.trans E0 E1
 have PC:W1.heap[w.heap.size]?=some (.deferred (some [])):=by
  rw [←DB];exact (qB _ _ (by simp)).trans (zY _ _)
 have M1:Marks nt.B g1 W1 ({target:=.collected w.heap.size,args := #[]}::a.defers):=by
  obtain ⟨m0,Ds,m1,m2,m3⟩:=Rl.env.defers
  refine ⟨ux m0 sG.size,w.heap.size::Ds,by rw [m1];rfl,List.nodup_cons.2 ⟨fun hm => ?_,m2⟩,fun D hD => ?_⟩
  ·have:=(uu.1 (m3 _ hm).2.1).1;omega
  ·rcases ue.1 hD with rfl | hD
   ·exact ⟨m0,PC,hown⟩
   ·obtain ⟨n1,n2,n3⟩:=m3 D hD
    have hlt:=(uu.1 n2).1
    exact ⟨n1,(sG.old D hlt n3).1.trans n2,fun ho=>(sG.own D ho).elim n3 (fun h=>by omega)⟩
 have yk:∀ l id args heap next KK,QJ C nt st.env st.next (w.heap.size+1) R pM.toList x y l id args heap next KK→∀ (g':Gh) (w':World) (vs:List Value),RH C g' (za heap) (· < next) w'→nG C g' (za heap) (· < next) w' args vs→(∀ R s pe,za heap id=some (.lp l R s pe)→g'.ρ id=some l) →
   b8 g1 (za (zk st.heap st.next (.lp (w.heap.size+1) R .ready none))) (· < st.next+1) W1 g' (za heap) (· < next) w' →
   YieldAt Fence.wide 0 C.P l vs.toArray w' fun e w''=>∃ v r heap' next' g'',e=.returned v∧KK r heap' next'∧b8 g' (za heap) (· < next) w' g'' (za heap') (· < next') w''∧RH C g'' (za heap') (· < next') w''∧RV C g'' (za heap') (· < next') w'' r v:=by
  rintro l id args heap next KK ⟨rfl,rfl,hlen,mN,hwp⟩ g' w' vs H' hvs C5 E'
  have Hi:=C5 R _ _ mN
  have hb':w'.heap[w.heap.size+1]?=some (.loop (R .ready none)):=(H'.obj _ _ _ Hi mN).2.2
  have DC:vs.toArray.size=(R .ready none).params.size:=by rw [o9];have:=hvs.1;simp only [List.size_toArray];rw [←this,hlen];simp
  have hy:=run_yield (P:=C.P) hb' DC
  refine ⟨_,_,_,_,hy,?_⟩
  rw [o9]
  simp only
  refine roundIn_of_wpIn trivial ?_
  have A0:=b8.trans sG E'
  have PD:RE C nt g' st.env (za heap) (· < next) {a with defers:=[]} w':=⟨Rl.env.size,Marks.nil _ (ux Rl.env.defers.1 A0.size),fun t z hz=>(Rl.env.slot t z hz).mono A0⟩
  have PE:=Hh pM.toList args vs st.env {a with defers:=[]} hps PD hvs
  have hz:(pM.zip vs.toArray).foldl (fun tmps (t,a)=>tmps.setIfInBounds t a) a.tmps=(pM.toList.zip vs).foldl (fun t pv=>t.setIfInBounds pv.1 pv.2) a.tmps:=by
   rw [←Array.foldl_toList];simp
  rw [hz]
  refine Code.wpIn_mono ?_ (hwp p hp g' _ w' ⟨PE,H'⟩ trivial)
  rintro e a1 w1 ⟨nV,DD,hk,R1,E2⟩
  cases e with
  | normal=>
   obtain ⟨hk1,hk2⟩:=hk
   have Hj:DD.ρ st.next=some (w.heap.size+1):=by
    rcases E2.eo _ _ Hi _ hk1 (by simp) (H'.key _ _ mN) with h4 | ⟨_,_,_,_,_,e2,_⟩
    ·exact h4
    ·cases e2
   obtain ⟨pN,E3,H3⟩:=Kk (s':=.busy) (lU:=none) R1.heap hk1 Hj
   refine ⟨_,run_beginRound pN (by rw [o9]),?_⟩
   have e3:({R .ready none with state:=.busy}:Loop)=R .busy none:=by rw [o9]
   rw [e3]
   have R3:Rel C nt DD ⟨nV.env,zk nV.heap st.next (.lp (w.heap.size+1) R .busy none),nV.next+1⟩ a1 (w1.putObj (w.heap.size+1) (.loop (R .busy none))):=⟨R1.env.mono E3,H3⟩
   refine Code.wpIn_mono ?_ (hk2 q hq DD a1 _ R3 trivial)
   rintro e a4 w4 ⟨DE,g4,iy,R4,E4⟩
   have fin:∀ (jump:Option Code),za DE.heap st.next=some (.lp (w.heap.size+1) R .busy none)→KK (.ak (.bool jump.isNone)) (zk DE.heap st.next (.lp (w.heap.size+1) R (if jump.isNone then .ready else .done) jump)) (DE.next+1) →
     ∃ v w'',(Instr.endRound (w.heap.size+1) jump).run C.P w4=.ok v w''∧∃ v' r heap' next' g'',Ending.returned v=.returned v'∧KK r heap' next'∧b8 g' (za heap) (· < next) w' g'' (za heap') (· < next') w''∧RH C g'' (za heap') (· < next') w''∧RV C g'' (za heap') (· < next') w'' r v':=fun jump h5 h6=>by
    have PF:g4.ρ st.next=some (w.heap.size+1):=by
     rcases E4.eo _ _ Hj _ h5 (by simp) (R3.heap.key st.next (.lp (w.heap.size+1) R .busy none) (by simp only [zm,if_true])) with h7 | ⟨_,_,_,_,_,e2,_⟩
     ·exact h7
     ·cases e2
    obtain ⟨PG,E5,H5⟩:=Kk (s':=if jump.isNone then .ready else .done) (lU:=jump) R4.heap h5 PF
    have hrun:=run_endRound (P:=C.P) jump PG
    have e5:({R .busy none with state:=if jump.isNone then .ready else .done,pending:=jump}:Loop)=R (if jump.isNone then .ready else .done) jump:=by rw [o9]
    rw [e5] at hrun
    exact ⟨_,_,hrun,_,_,_,_,g4,rfl,h6,b8.trans (b8.trans (b8.trans E2 E3) E4) E5,H5,.ak _ _ (.bool _)⟩
   cases e with
   | normal=>exact fin none iy.1 iy.2
   | ret=>exact fin (some .ret) iy.1 iy.2
   | exit id=>exact fin (some (.exit id)) iy.1 iy.2
   | _=>exact iy.elim
  | _=>exact hk.elim
 have hargs:nG C g1 (za (zk st.heap st.next (.lp (w.heap.size+1) R .ready none))) (· < st.next+1) W1 (.eE (w.heap.size+1) st.next::bq) (.func (.yield (w.heap.size+1)) #[] #[]::vc):=by
  refine ⟨by simp [hlc],fun j z u hj hu => ?_⟩
  cases j with
  | zero=>
   simp at hj hu
   subst hj hu
   exact .eE _ _ (uE _) fun R' s pe he=>hρ
  | succ j=>exact (eV j z u (by simpa using hj) (by simpa using hu)).mono sG
 have fZ:=WU (C:=⟨C.toCtx,none,some (g1,⟨[],zk st.heap st.next (.lp (w.heap.size+1) R .ready none),st.next+1⟩,W1),QJ C nt st.env st.next (w.heap.size+1) R pM.toList x y,Yb,yk⟩) rfl hF (by simpa [Nat.add_comm] using hn)
  (h (w.heap.size+1) R (some (g1,⟨[],zk st.heap st.next (.lp (w.heap.size+1) R .ready none),st.next+1⟩,W1)) Yb yk) H1 hargs (b8.refl _ _ _ _)
 obtain ⟨Hl,codeF,DF,sH,sI,_⟩:=ZA hF
 have eg:∀ args w,(callFunc (C.ew gf) args).run C.P w=.ok (.enter (C.ew gf) args) w:=fun args w=>by
  have h4:¬ Hl.body=none:=fun h=>by simp [h] at sH
  have h5 : ¬ Hl.name = "runtime.NumGoroutine" := fun h => by simp [h] at sI
  simp [callFunc,DF,h4,h5]
 refine ⟨w.heap.size+1,[{target:=.collected w.heap.size,args := #[]}],W1,{target:=.fn (.func (C.ew gf)) vc.toArray,args := #[.func (.yield (w.heap.size+1)) #[] #[]]},W1,C.ew gf,
  #[.func (.yield (w.heap.size+1)) #[] #[]]++vc.toArray,W1,?_,?_,fun _ _=>trivial,?_,fun h=>(by cases h),?_⟩
 ·rw [←DB,o9];exact run_enterLoop_outer _ _ _ _ _
 ·simp only [resolve,hval]
  simp [go_sem]
 ·simp [invoke,go_sem,eg]
 ·have mH : #[Value.func (.yield (w.heap.size+1)) #[] #[]]++vc.toArray=(Value.func (.yield (w.heap.size+1)) #[] #[]::vc).toArray:=by apply Array.ext';simp
  rw [mH]
  refine (callsIn_wide.2 fZ).mono ?_
  rintro e w2 ⟨v,r,heap',next',g2,rfl,hK,E2,H2,_⟩
  have fin:∀ (s:LoopState) (pe:Option Code),s≠.busy→za heap' st.next=some (.lp (w.heap.size+1) R s pe)→(Instr.endLoop (w.heap.size+1)).run C.P w2=.ok pe (w2.putObj (w.heap.size+1) (.loop (R .exhausted pe))) ∧
    Rel C nt g2 ⟨st.env,zk heap' st.next (.lp (w.heap.size+1) R .exhausted pe),next'+1⟩ {a with defers:={target:=.collected w.heap.size,args := #[]}::a.defers} (w2.putObj (w.heap.size+1) (.loop (R .exhausted pe))) ∧
    dI g st w g2 ⟨st.env,zk heap' st.next (.lp (w.heap.size+1) R .exhausted pe),next'+1⟩ (w2.putObj (w.heap.size+1) (.loop (R .exhausted pe))):=fun s pe hs ho=>by
   have PJ:g2.ρ st.next=some (w.heap.size+1):=by
    rcases E2.eo _ _ hρ _ ho (by simp) (uE _) with h4 | ⟨_,_,_,_,_,e2,_⟩
    ·exact h4
    ·cases e2
   obtain ⟨mr,E3,H3⟩:=Kk (s':=.exhausted) (lU:=pe) H2 ho PJ
   have hrun:=run_endLoop (P:=C.P) mr (by rw [o9];exact hs)
   have e5:({R s pe with state:=.exhausted}:Loop)=R .exhausted pe:=by rw [o9]
   have e6:(R s pe).pending=pe:=by rw [o9]
   rw [e5,e6] at hrun
   have DG:=b8.trans E2 E3
   exact ⟨hrun,⟨⟨Rl.env.size,M1.eN DG,fun t z hz=>((Rl.env.slot t z hz).mono sG).mono DG⟩,H3⟩,b8.trans sG DG⟩
  rcases hK with ⟨h1,h2⟩ | ⟨h1,h2⟩ | ⟨id,h1,h2⟩
  ·obtain ⟨f1,f2,f3⟩:=fin _ _ (by simp) h1
   exact ⟨none,_,f1,_,g2,h2,f2,f3⟩
  ·obtain ⟨f1,f2,f3⟩:=fin _ _ (by simp) h1
   exact ⟨some .ret,_,f1,wpIn_ret ⟨_,g2,h2,f2,f3⟩⟩
  ·obtain ⟨f1,f2,f3⟩:=fin _ _ (by simp) h1
   exact ⟨some (.exit id),_,f1,wpIn_exit ⟨_,g2,h2,f2,f3⟩⟩
end
end
end Go.Proofs.YtlpmnmbebkdocaaGreatDoor
