/-
  Regions run by the kernel: what is not decided by reckoning (tests, lengths, elements, answers of calls) is told ahead ('Orc'), and what is told is asked for as a list of facts.
  Forgetting, and the end of a function, by the kernel.
  Slices that are nil or not; renaming; copies of slices (slices.Clone).
  A slice with an owner that is written no more may be taken for data.
  Loops whose states have names that are found on the way; slices of slices that grow.
  A slice with an owner that will only grow may be taken for one that grows.
  The abstract machine: ranges over functions. The iterator's code is run where the loop stands; its calls of yield run the loop's body.
-/
import Derived.Test.YtgpojcfkanjabaaGreatDoorAS04
open List renaming getElem?_eq_some_iff → ua, getElem?_map → ub, mem_cons → ud, replicate → ue, map → ug, map_cons → ui, mem_of_getElem? → uj, getElem?_set → uk, all_eq_true → ul, mem_flatMap → um, eq_nil_of_length_eq_zero → uq, mem_append → ur, take_of_length_le → uw, length_map → uy, drop_zero → uA, getElem?_take → uD, getElem?_drop → uE, map_take → uK, map_map → uL
open Option renaming map_eq_some_iff → uc, map_some → uI
open Bool renaming false_eq_true → uC
open Nat renaming le_refl → uh, lt_irrefl → un, mul_le_mul_right → uo, lt_of_lt_of_le → ut, zero_add → uv, le_trans → ux, le_of_ble_eq_true → uz, add_mul → uB, blt → uF, lt_succ_self → uG, zero_le → uH, blt_eq → uJ
open Array renaming getElem?_eq_some_iff → uu
namespace Go.Proofs.YtgpojcfkanjabaaGreatDoor
open Go.RowKit
set_option linter.unusedSimpArgs false
set_option linter.unusedVariables false
section
inductive eF where
 | g (b:Bool)
 | n (k:Int)
 | r (row:List IV)
 | v (x:IV)
 | w (ids:List Nat) (dy:List IV) (x:IV)
 | s (af:List (List IV))
 | k (row:Nat)
 | ar (row:List AV)
 | aw (row:List AV) (af:List (List AV))
 | m (n:Nat) (af:List (List AV))
 | a (af:List (List IV)) (n:Nat)
 | b (af:List (List AV)) (n:Nat)
 | c (l:List Nat) (m:Nat) (r:AV) (aO:List (Nat×aG)) (d:Nat)
 | l (x:AV) (b:Bool)
 | u (es:List (IV×AV))
def Gc (af:List (List IV)) (n:Int) (row:List IV):Prop:=0≤n∧af[n.toNat]?=some row
def AK (af:List (List IV)) (k:Int):Prop:=(af.length:Int)=k
def DA (af:List (List IV)) (sz:Nat) (a b:Int) (r:List (List IV)):Prop:=0≤a∧a≤b∧b≤(af.length:Int)∧(af.all fun row=>row.length == sz)=true∧(af.take b.toNat).drop a.toNat=r
def YY (op:BinOp) (a b r:IV):Prop:=yP op a b=some r
def X2 (n:Int) (off len row:Nat):Prop:=0≤n∧n < (len:Int)∧off+n.toNat=row
def YZ (af:List (List AV)) (r:Nat) (row:List AV):Prop:=af[r]?=some row
def Gd (af:List (List AV)) (r:Nat) (row new:List AV) (dY:List (List AV)):Prop:=af[r]?=some row∧af.set r new=dY
def DB (n:Int) (bG:Nat) (zero:List AV) (k:Nat) (af:List (List AV)):Prop:=(0≤n∧n < 2 ^ 31∧n*bG≤140737488355328)∧n.toNat=k∧ue k zero=af
def Ge (sz:Nat) (af new dY:List (List AV)) (len:Nat):Prop:=len=af.length∧new.length=len∧(new.all fun row=>row.length == sz)=true∧new=dY
def DC (sz bG:Nat) (old new af:List (List IV)) (len k:Nat):Prop:=(new.all fun row=>row.length == sz)=true∧old.length=len∧(len+new.length)*bG≤140737488355328∧old++new=af∧len+new.length=k
def OI (sz bG:Nat) (old new af:List (List AV)) (len k:Nat):Prop:=(new.all fun row=>row.length == sz)=true∧len=old.length∧(len+new.length)*bG≤140737488355328∧old++new=af∧len+new.length=k
def BQ (str:Bool) (zero:AV) (k:IV) (es:List (IV×AV)) (x:AV) (b:Bool):Prop:=(xf str k&&qX k es)=true∧((zP k es=some x∧b=true)∨(zP k es=none∧zero=x∧b=false))
def BR (es:List (IV×AV)) (k:Int):Prop:=(es.length:Int)=k
def Gf (str:Bool) (k:IV) (es es':List (IV×AV)):Prop:=(xf str k&&qX k es)=true∧qW k es=es'
def DD (str:Bool) (k:IV) (v:AV) (es es':List (IV×AV)):Prop:=(xf str k&&qX k es)=true∧qF k v es=es'
def OJ (str:Bool) (zero:AV) (k y:IV) (x:AV) (b:Bool):Prop:=∃ es,xk (fun _=>none) (.ax y)=some es∧BQ str zero k es x b
def OK (neg:Bool) (y r:IV):Prop:=∃ b,vM (fun _=>none) (.ax y)=some b∧r=.bool (if neg then !b else b)
def DE (args:List AV) (bT:List (Nat×aG)) (dy:List IV):Prop:=aM (zE (za bT) 5) args=some dy
def OL (D:List Nat):aZ→Bool
 | .t n=>D.contains n
 | .c _=>true
 | .m _ _=>false
abbrev xo:=Option (AV×List (Nat×aG)×List Nat×List eF×List Prop×Nat)
def q8 (op:cO) (bV:List eF) (st:St):xo:=match ai op (zd st.env) (za st.heap) st.next with
 | some (r,aO)=>some (r,aO,zk op (zd st.env),bV,[],0)
 | none=>none
def Gg (op:cO) (bV:List eF) (st:St) (lit:Bool) (a b:AV):AV→xo
 | .ax (.bool x)=>match lit with
  | true=>match x with
   | true=>some (a,[],zk op (zd st.env),bV,[],0)
   | false=>some (b,[],zk op (zd st.env),bV,[],0)
  | false=>match bV with
   | .g true::o=>some (a,[],zk op (zd st.env),o,[x=true],0)
   | .g false::o=>some (b,[],zk op (zd st.env),o,[x=false],0)
   | _=>none
 | _=>none
def Gi (op:cO) (bV:List eF) (st:St):AV→xo
 | .ax (.slice af) | .aU _ af=>match bV with
  | .n k::o=>some (.ax (.int .i64 k),[],zk op (zd st.env),o,[AK af k],0)
  | _=>none
 | _=>q8 op bV st
def Gj (op:cO) (sz:Nat) (bV:List eF) (st:St) (i:AV):AV→xo
 | .ax (.slice af) | .aU _ af=>match i with
  | .ax (.int _ n)=>match bV with
   | .r row::o=>if row.length=sz then some (.cz row,[],zk op (zd st.env),o,[Gc af n row],0) else none
   | _=>none
  | _=>none
 | .Zak j off len=>match bV with
  | .k row::o=>match i with
   | .ax (.int _ n)=>match za st.heap j with
    | some (.af sz' _)=>if sz'=sz then some (.ptr j row 0,[],zk op (zd st.env),o,[X2 n off len row],0) else none
    | _=>none
   | _=>none
  | _=>q8 op bV st
 | _=>q8 op bV st
def Gk (op:cO) (len sz:Nat) (bV:List eF) (st:St) (i x:AV):xo:=match bV with
 | .k row::o=>match x with
  | .ptr j 0 0=>match i with
   | .ax (.int _ n)=>match za st.heap j with
    | some (.af sz' _)=>if sz'=sz then some (.ptr j row 0,[],zk op (zd st.env),o,[X2 n 0 len row],0) else none
    | _=>none
   | _=>none
  | _=>none
 | _=>q8 op bV st
def Gl (op:cO) (AL:BinOp) (bV:List eF) (st:St) (x y:AV):xo:=match AL with
 | .quo | .rem | .shl | .shr=>match x,y with
  | .ax a,.ax b=>match bV with
   | .v r::o=>some (.ax r,[],zk op (zd st.env),o,[YY AL a b r],0)
   | _=>none
  | _,_=>none
 | _=>q8 op bV st
def BS (st:St) (dflt:Int):Option aZ→Option Int
 | none=>some dflt
 | some y=>match zd st.env y with
  | .ax (.int _ n)=>some n
  | _=>none
def Gn (op:cO) (sz:Nat) (bV:List eF) (st:St) (lo hi:Option aZ):AV→xo
 | .ax (.slice af)=>match BS st 0 lo,BS st (af.length:Int) hi,bV with
  | some a,some b,.s r::o=>some (.ax (.slice r),[],zk op (zd st.env),o,[DA af sz a b r],0)
  | _,_,_=>none
 | _=>none
def DF (C:Ctx) (bV:List eF) (st:St) (args:List AV):AV→xo
 | .func f first bp=>match bV with
  | .v x::o=>match aM (zE (za st.heap) 5) (first++args++bp) with
   | some dy=>match (first++args++bp).all (xe 5) with
    | true=>some (.ax x,[],[],o,[aL C f dy x],0)
    | false=>none
   | none=>none
  | .w ids dy x::o=>match x9 st.heap ids with
   | some bT=>match xM x with
    | true=>some (.ax x,[],ids,o,[aL C f dy x,DE (first++args++bp) bT dy],0)
    | false=>none
   | none=>none
  | .c l m r aO d::o=>match x9 st.heap l with
   | some bT=>match ZC l m st.next with
    | true=>some (r,aO,l,o,[lR C f (first++args++bp) l m st.next bT r aO d],d)
    | false=>none
   | none=>none
  | _=>none
 | _=>none
def Gp (op:cO) (agg:Bool) (n:Nat) (bV:List eF) (st:St) (x:AV):xo:=match bV with
 | .ar row::o=>match x with
  | .ptr i r f=>match za st.heap i with
   | some (.af _ af)=>match agg with
    | true=>if f+n≤row.length then some (.agg ((row.drop f).take n),[],zk op (zd st.env),o,[YZ af r row],0) else none
    | false=>match row[f]? with
     | some c=>some (c,[],zk op (zd st.env),o,[YZ af r row],0)
     | none=>none
   | _=>none
  | _=>none
 | _=>q8 op bV st
def Gq (op:cO) (n:Nat) (bV:List eF) (st:St) (x:AV) (v:Option (List AV)):xo:=match bV with
 | .aw row dY::o=>match x with
  | .ptr i r f=>match v with
   | some cs=>match za st.heap i with
    | some (.af sz af)=>if cs.length=n∧f+n≤row.length then some (.undef,[(i,.af sz dY)],zk op (zd st.env),o,[Gd af r row (qV row f cs) dY],0) else none
    | _=>none
   | none=>none
  | _=>none
 | _=>q8 op bV st
def Gr (op:cO) (sz bG:Nat) (zero:List AV) (bV:List eF) (st:St) (x:AV):xo:=match bV with
 | .m k af::o=>match x with
  | .ax (.int .i64 n)=>some (.Zak st.next 0 k,[(st.next,.af sz af)],zk op (zd st.env),o,[DB n bG zero k af],0)
  | _=>none
 | _=>q8 op bV st
def Gs (op:cO) (sz bG:Nat) (bV:List eF) (st:St) (x:AV) (s:AV):xo:=match bV with
 | .a af k::o=>match xK (za st.heap) x with
  | some new=>match s with
   | .nil=>some (.aU st.next af,[(st.next,.aV sz k)],zk op (zd st.env),o,[DC sz bG [] new af 0 k],0)
   | .aU i old=>match za st.heap i with
    | some (.aV sz' len)=>if sz'=sz then some (.aU i af,[(i,.aV sz k)],zk op (zd st.env),o,[DC sz bG old new af len k],0) else none
    | _=>none
   | _=>none
  | none=>none
 | .b af k::o=>match jV (za st.heap) x with
  | some new=>match s with
   | .Zak i off len=>match za st.heap i with
    | some (.af sz' old)=>if sz'=sz∧off=0 then some (.Zak st.next 0 k,[(st.next,.af sz af),(i,.dead)],zk op (zd st.env),o,[OI sz bG old new af len k],0) else none
    | _=>none
   | _=>none
  | none=>none
 | _=>q8 op bV st
def Gt (op:cO) (str:Bool) (zero:AV) (ok:Bool) (bV:List eF) (st:St) (k m:AV):xo:=match bV with
 | .l x b::o=>match m,k with
  | .map i,.ax k=>match za st.heap i with
   | some (.map es)=>some (match ok with | true=>.tuple [x,.ax (.bool b)] | false=>x,[],zk op (zd st.env),o,[BQ str zero k es x b],0)
   | _=>none
  | .ax y,.ax k=>some (match ok with | true=>.tuple [x,.ax (.bool b)] | false=>x,[],zk op (zd st.env),o,[OJ str zero k y x b],0)
  | _,_=>none
 | _=>q8 op bV st
def Gu (op:cO) (str:Bool) (bV:List eF) (st:St) (v k m:AV):xo:=match bV with
 | .u es'::o=>match m,k with
  | .map i,.ax k=>match za st.heap i with
   | some (.map es)=>some (.undef,[(i,.map es')],zk op (zd st.env),o,[DD str k (xL v) es es'],0)
   | _=>none
  | _,_=>none
 | _=>q8 op bV st
def Gv (op:cO) (str:Bool) (bV:List eF) (st:St) (k m:AV):xo:=match bV with
 | .u es'::o=>match m,k with
  | .map i,.ax k=>match za st.heap i with
   | some (.map es)=>some (.tuple [],[(i,.map es')],zk op (zd st.env),o,[Gf str k es es'],0)
   | _=>none
  | _,_=>none
 | _=>q8 op bV st
def Gw (op:cO) (bV:List eF) (st:St) (m:AV):xo:=match bV with
 | .n k::o=>match m with
  | .map i=>match za st.heap i with
   | some (.map es)=>some (.ax (.int .i64 k),[],zk op (zd st.env),o,[BR es k],0)
   | _=>none
  | _=>none
 | _=>q8 op bV st
def Gx (op:cO) (neg:Bool) (bV:List eF) (st:St) (x y:AV):xo:=match bV with
 | .v r::o=>match x,y with
  | .ax a,.ax .cY=>some (.ax r,[],zk op (zd st.env),o,[OK neg a r],0)
  | _,_=>none
 | _=>q8 op bV st
def Gy (op:cO) (sz:Nat) (bV:List eF) (st:St) (x:AV) (d:AV):xo:=match bV with
 | .b dY _::o=>match jV (za st.heap) x with
  | some new=>match d with
   | .Zak i 0 len=>match za st.heap i with
    | some (.af sz' af)=>if sz'=sz then some (.ax (.int .i64 (len:Int)),[(i,.af sz dY)],zk op (zd st.env),o,[Ge sz af new dY len],0) else none
    | _=>none
   | _=>none
  | none=>none
 | _=>q8 op bV st
def Gz (op:cO) (len sz:Nat) (bV:List eF) (st:St) (i x:AV):xo:=match bV with
 | .k row::o=>match x with
  | .agg cs=>match i with
   | .ax (.int _ n)=>match cs[row]? with
    | some c=>if sz=1 then some (c,[],zk op (zd st.env),o,[X2 n 0 len row],0) else none
    | none=>none
   | _=>none
  | _=>none
 | _=>q8 op bV st
def fX (C:Ctx) (op:cO) (bV:List eF) (D:List Nat) (st:St):xo:=match op with
 | .pick c a b=>Gg op bV st (OL D c) (zd st.env a) (zd st.env b) (zd st.env c)
 | .len x=>Gi op bV st (zd st.env x)
 | .idx sz x i=>Gj op sz bV st (zd st.env i) (zd st.env x)
 | .idxa len sz x i=>Gk op len sz bV st (zd st.env i) (zd st.env x)
 | .bin AL x y=>Gl op AL bV st (zd st.env x) (zd st.env y)
 | .slc sz x lo hi=>Gn op sz bV st lo hi (zd st.env x)
 | .call f args=>DF C bV st (args.map (zd st.env)) (zd st.env f)
 | .load agg n x=>Gp op agg n bV st (zd st.env x)
 | .store n x v=>Gq op n bV st (zd st.env x) (cellsOf (zd st.env v))
 | .mks sz bG zero n=>Gr op sz bG zero bV st (zd st.env n)
 | .app sz bG s x=>Gs op sz bG bV st (zd st.env x) (zd st.env s)
 | .look str zero ok m k=>Gt op str zero ok bV st (zd st.env k) (zd st.env m)
 | .upd str m k v=>Gu op str bV st (zd st.env v) (zd st.env k) (zd st.env m)
 | .del str m k=>Gv op str bV st (zd st.env k) (zd st.env m)
 | .lenm x=>Gw op bV st (zd st.env x)
 | .eqnm neg x y=>Gx op neg bV st (zd st.env x) (zd st.env y)
 | .copy sz d x=>Gy op sz bV st (zd st.env x) (zd st.env d)
 | .ixa len sz x i=>Gz op len sz bV st (zd st.env i) (zd st.env x)
 | op=>q8 op bV st
def Xk (gd:Option (Nat×Bool)) (bV:List eF) (D:List Nat) (st:St):Option (Bool×List eF×List Prop×List Nat×St):=match gd with
 | none=>some (true,bV,[],D,st)
 | some (t,want)=>match (za st.env t).getD .top with
  | .undef=>some (false,bV,[],D,st)
  | .ax (.bool b)=>match D.contains t with
   | true=>match b with
    | true=>some (want,bV,[],D,st)
    | false=>some (!want,bV,[],D,st)
   | false=>match bV with
    | .g true::o=>some (want,o,[b=true],t::D,{st with env:=zo st.env t (.ax (.bool true))})
    | .g false::o=>some (!want,o,[b=false],t::D,{st with env:=zo st.env t (.ax (.bool false))})
    | _=>none
  | _=>none
def OM (dr:Option (List Nat)) (j:Nat) (W R:List (Nat×Nat)) (aO:List (Nat×aG)) (rd:List Nat) (d:Nat):Bool:=match dr with
 | none=>true
 | some ord=>d == 0&&xn ord j W R (zY aO) rd
def St.mL (st:St) (dst:Option Nat) (r:AV) (aO:List (Nat×aG)) (d:Nat):St:=
 St.put {st with heap:=zG aO st.heap,next:=st.next+d+1} dst r
def X3 (D:List Nat):Option Nat→List Nat
 | some d=>D.filter (· != d)
 | none=>D
def Y0 (C:Ctx) (dr:Option (List Nat)):List aQ→Nat→List (Nat×Nat)→List (Nat×Nat)→List eF→List Nat→St→Option (St×List Prop)
 | [],_,_,_,bV,_,st=>match bV with
  | []=>some (st,[])
  | _=>none
 | it::rest,j,W,R,bV,D,st=>match Xk it.guard bV D st with
  | none=>none
  | some (false,o,ps,D',aY)=>match Y0 C dr rest (j+1) W R o (X3 D' it.dst) (aY.after it.dst .undef []) with
   | some (s,qs)=>some (s,ps++qs)
   | none=>none
  | some (true,o,ps,D',aY)=>match fX C it.op o D' aY with
   | none=>none
   | some (r,aO,rd,o',ps',d)=>match OM dr j W R aO rd d with
    | false=>none
    | true=>match Y0 C dr rest (j+1) (qZ j (zY aO) W) (qZ j rd R) o' (X3 D' it.dst) (aY.mL it.dst r aO d) with
     | some (s,qs)=>some (s,ps++(ps'++qs))
     | none=>none
section
variable {C:Ctx}
theorem Jn {α:Type}:∀ {l:List (Nat×α)} {t:Nat} {x:α},za l t=some x→zo l t x=l
 | [],t,x,h=>by cases h
 | (k,v)::r,t,x,h=>by
  simp only [za] at h
  simp only [zo]
  split at h
  ·rename_i e;subst e;cases h;simp
  ·rename_i e;rw [if_neg e,Jn h]
theorem qg {op:cO} {bV o':List eF} {st:St} {r:AV} {aO:List (Nat×aG)} {rd:List Nat} {ps:List Prop} {d:Nat} (h:q8 op bV st=some (r,aO,rd,o',ps,d)) :
  ai op (zd st.env) (za st.heap) st.next=some (r,aO)∧rd=zk op (zd st.env)∧d=0:=by
 unfold q8 at h
 split at h
 ·rename_i e;cases h;exact ⟨e,rfl,rfl⟩
 ·cases h
def fM:cO→Bool
 | .call _ _=>true
 | _=>false
theorem ON {st:St} {sz id:Nat} {x:aZ} {lo hi:Option aZ} {af:List (List IV)} {h:Nat→Option aG} (hx:zd st.env x=.ax (.slice af)):ai (.slc sz x lo hi) (zd st.env) h id=match BS st 0 lo,BS st (af.length:Int) hi with
  | some a,some b=>if 0≤a∧a≤b∧b≤(af.length:Int)∧(af.all fun row=>row.length == sz)=true then some (.ax (.slice ((af.take b.toNat).drop a.toNat)),[]) else none
  | _,_=>none:=by
 simp only [ai,hx]
 cases lo<;>cases hi<;>rfl
theorem GA {op:cO} {bV o':List eF} {D:List Nat} {st:St} {r:AV} {aO:List (Nat×aG)} {rd:List Nat} {ps:List Prop} {d:Nat} (hc:fM op=false) (h:fX C op bV D st=some (r,aO,rd,o',ps,d)) (hp:cI ps) :
  ai op (zd st.env) (za st.heap) st.next=some (r,aO)∧rd=zk op (zd st.env)∧d=0:=by
 cases op
 case call=>cases hc
 case pick c a b=>
  simp only [fX] at h
  unfold Gg at h
  simp only [ai]
  split at h
  ·rename_i x hx
   split at h
   ·split at h<;>(cases h;rw [hx];exact ⟨rfl,rfl,rfl⟩)
   ·split at h
    ·cases h;have:=hp.one;subst this;rw [hx];exact ⟨rfl,rfl,rfl⟩
    ·cases h;have:=hp.one;subst this;rw [hx];exact ⟨rfl,rfl,rfl⟩
    ·cases h
  ·cases h
 case len x=>
  simp only [fX] at h
  unfold Gi at h
  split at h
  ·rename_i af hx
   split at h
   ·cases h
    have:=hp.one
    refine ⟨?_,rfl,rfl⟩
    simp only [ai,ww,hx]
    unfold AK at this
    rw [this]
   ·cases h
  ·rename_i af hx
   split at h
   ·cases h
    have:=hp.one
    refine ⟨?_,rfl,rfl⟩
    simp only [ai,ww,hx]
    unfold AK at this
    rw [this]
   ·cases h
  ·exact qg h
 case idx sz x i=>
  simp only [fX] at h
  unfold Gj at h
  split at h
  ·rename_i af hx
   split at h
   ·rename_i k n hi
    split at h
    ·split at h
     ·rename_i hl
      cases h
      have:=hp.one
      refine ⟨?_,rfl,rfl⟩
      simp only [ai,hx,hi,if_pos this.1,this.2,if_pos hl]
     ·cases h
    ·cases h
   ·cases h
  ·rename_i af hx
   split at h
   ·rename_i k n hi
    split at h
    ·split at h
     ·rename_i hl
      cases h
      have:=hp.one
      refine ⟨?_,rfl,rfl⟩
      simp only [ai,hx,hi,if_pos this.1,this.2,if_pos hl]
     ·cases h
    ·cases h
   ·cases h
  ·rename_i j off len hx
   split at h
   ·split at h
    ·rename_i k n hi
     split at h
     ·rename_i sz' af ho
      split at h
      ·rename_i hsz
       cases h
       obtain ⟨h1,h2,h3⟩:=hp.one
       refine ⟨?_,rfl,rfl⟩
       simp only [ai,hx,hi,ho]
       rw [if_pos ⟨hsz,h1,h2⟩,h3]
      ·cases h
     ·cases h
    ·cases h
   ·exact qg h
  ·exact qg h
 case idxa len sz x i=>
  simp only [fX] at h
  unfold Gk at h
  split at h
  ·split at h
   ·rename_i j hx
    split at h
    ·rename_i k n hi
     split at h
     ·rename_i sz' af ho
      split at h
      ·rename_i hsz
       cases h
       obtain ⟨h1,h2,h3⟩:=hp.one
       refine ⟨?_,rfl,rfl⟩
       simp only [ai,hx,hi,ho]
       rw [if_pos ⟨hsz,h1,h2⟩,←h3,uv]
      ·cases h
     ·cases h
    ·cases h
   ·cases h
  ·exact qg h
 case bin AL x y=>
  simp only [fX] at h
  unfold Gl at h
  split at h
  all_goals first
   | exact qg h
   | skip
  all_goals
   split at h
   ·rename_i a b hx hy
    split at h
    ·cases h
     have:=hp.one
     unfold YY at this
     refine ⟨?_,rfl,rfl⟩
     simp only [ai,hx,hy,this,uI]
    ·cases h
   ·cases h
 case slc sz x lo hi=>
  simp only [fX] at h
  unfold Gn at h
  split at h
  ·rename_i af hx
   split at h
   ·rename_i a b r' o ha hb
    cases h
    obtain ⟨h1,h2,h3,h4,h5⟩:=hp.one
    refine ⟨?_,rfl,rfl⟩
    rw [ON hx,ha,hb]
    simp only
    rw [if_pos ⟨h1,h2,h3,h4⟩,h5]
   ·cases h
  ·cases h
 case load agg n x=>
  simp only [fX] at h
  unfold Gp at h
  split at h
  ·split at h
   ·rename_i i OO f hx
    split at h
    ·rename_i sz af ho
     split at h
     ·split at h
      ·rename_i hle
       cases h
       have h1:=hp.one
       unfold YZ at h1
       refine ⟨?_,rfl,rfl⟩
       simp only [ai,hx,ho,h1,if_true]
       rw [if_pos hle]
      ·cases h
     ·split at h
      ·rename_i c hcell
       cases h
       have h1:=hp.one
       unfold YZ at h1
       refine ⟨?_,rfl,rfl⟩
       simp only [ai,hx,ho,h1,hcell,uI,uC,if_false]
      ·cases h
    ·cases h
   ·cases h
  ·exact qg h
 case store n x v=>
  simp only [fX] at h
  unfold Gq at h
  split at h
  ·split at h
   ·rename_i i OO f hx
    split at h
    ·rename_i cs hcs
     split at h
     ·rename_i sz af ho
      split at h
      ·rename_i hle
       cases h
       obtain ⟨h1,h2⟩:=hp.one
       refine ⟨?_,rfl,rfl⟩
       simp only [ai,hx,hcs,ho,h1]
       rw [if_pos hle,h2]
      ·cases h
     ·cases h
    ·cases h
   ·cases h
  ·exact qg h
 case mks sz bG zero n=>
  simp only [fX] at h
  unfold Gr at h
  split at h
  ·split at h
   ·rename_i k af o n' hx
    cases h
    obtain ⟨h1,h2,h3⟩:=hp.one
    refine ⟨?_,rfl,rfl⟩
    simp only [ai,hx]
    rw [if_pos h1,h2,h3]
   ·cases h
  ·exact qg h
 case app sz bG s x=>
  simp only [fX] at h
  unfold Gs at h
  split at h
  ·split at h
   ·rename_i new hnew
    split at h
    ·rename_i hs
     cases h
     obtain ⟨h1,h2,h3,h4,h5⟩:=hp.one
     refine ⟨?_,rfl,rfl⟩
     simp only [ai,hs,JW,hnew,h1]
     simp only [List.nil_append] at h4
     subst h4
     simp only [uv] at h3 h5
     subst h5
     simp [h3]
    ·rename_i i old hs
     split at h
     ·rename_i sz' len ho
      split at h
      ·rename_i hsz
       cases h
       obtain ⟨h1,h2,h3,h4,h5⟩:=hp.one
       refine ⟨?_,rfl,rfl⟩
       simp only [ai,hs,JW,hnew,h1,ho]
       subst h4 h5
       simp [hsz,h2,h3]
      ·cases h
     ·cases h
    ·cases h
   ·cases h
  ·split at h
   ·rename_i new hnew
    split at h
    ·rename_i i off len hs
     split at h
     ·rename_i sz' old ho
      split at h
      ·rename_i hsz
       cases h
       obtain ⟨h1,h2,h3,h4,h5⟩:=hp.one
       refine ⟨?_,rfl,rfl⟩
       simp only [ai,hs,JX,hnew,h1,ho]
       simp only [Bool.not_true,uC,if_false]
       rw [if_pos ⟨hsz.1,hsz.2,h2,h3⟩,h4,h5]
      ·cases h
     ·cases h
    ·cases h
   ·cases h
  ·exact qg h
 case look str zero ok m k=>
  simp only [fX] at h
  unfold Gt at h
  split at h
  ·split at h
   ·rename_i i kk hm hk
    split at h
    ·rename_i es ho
     cases h
     obtain ⟨h1,h2⟩:=hp.one
     refine ⟨?_,rfl,rfl⟩
     simp only [ai,xk,hm,hk,ho,h1,if_true]
     rcases h2 with ⟨h3,h4⟩ | ⟨h3,h4,h5⟩
     ·rw [h3,h4];cases ok<;>rfl
     ·rw [h3,h4,h5];cases ok<;>rfl
    ·cases h
   ·rename_i y kk hm hk
    cases h
    obtain ⟨es,h0,h1,h2⟩:=hp.one
    refine ⟨?_,rfl,rfl⟩
    have h0':xk (za st.heap) (.ax y)=some es:=by
     revert h0
     unfold xk
     cases y<;>exact fun h=>h
    simp only [ai,hm,h0',hk,h1,if_true]
    rcases h2 with ⟨h3,h4⟩ | ⟨h3,h4,h5⟩
    ·rw [h3,h4];cases ok<;>rfl
    ·rw [h3,h4,h5];cases ok<;>rfl
   ·cases h
  ·exact qg h
 case upd str m k v=>
  simp only [fX] at h
  unfold Gu at h
  split at h
  ·split at h
   ·rename_i i kk hm hk
    split at h
    ·rename_i es ho
     cases h
     obtain ⟨h1,h2⟩:=hp.one
     refine ⟨?_,rfl,rfl⟩
     simp only [ai,hm,hk,ho,h1,if_true,h2]
    ·cases h
   ·cases h
  ·exact qg h
 case del str m k=>
  simp only [fX] at h
  unfold Gv at h
  split at h
  ·split at h
   ·rename_i i kk hm hk
    split at h
    ·rename_i es ho
     cases h
     obtain ⟨h1,h2⟩:=hp.one
     refine ⟨?_,rfl,rfl⟩
     simp only [ai,hm,hk,ho,h1,if_true,h2]
    ·cases h
   ·cases h
  ·exact qg h
 case lenm x=>
  simp only [fX] at h
  unfold Gw at h
  split at h
  ·split at h
   ·rename_i i hm
    split at h
    ·rename_i es ho
     cases h
     have h1:=hp.one
     unfold BR at h1
     refine ⟨?_,rfl,rfl⟩
     simp only [ai,hm,ho,h1]
    ·cases h
   ·cases h
  ·exact qg h
 case eqnm neg x y=>
  simp only [fX] at h
  unfold Gx at h
  split at h
  ·split at h
   ·rename_i a hx hy
    cases h
    obtain ⟨b,h0,h1⟩:=hp.one
    refine ⟨?_,rfl,rfl⟩
    have h0':vM (za st.heap) (.ax a)=some b:=by
     revert h0
     unfold vM
     cases a<;>exact fun h=>h
    simp only [ai,hy,hx,h0',h1]
   ·cases h
  ·exact qg h
 case copy sz d x=>
  simp only [fX] at h
  unfold Gy at h
  split at h
  ·split at h
   ·rename_i new hnew
    split at h
    ·rename_i i len hd
     split at h
     ·rename_i sz' af ho
      split at h
      ·rename_i hsz
       cases h
       obtain ⟨h1,h2,h3,h4⟩:=hp.one
       refine ⟨?_,rfl,rfl⟩
       simp only [ai,BF,hd,ho,hnew]
       rw [if_pos ⟨hsz,h1,h2,h3⟩,h4]
      ·cases h
     ·cases h
    ·cases h
   ·cases h
  ·exact qg h
 case ixa len sz x i=>
  simp only [fX] at h
  unfold Gz at h
  split at h
  ·split at h
   ·rename_i cs hx
    split at h
    ·rename_i k n hi
     split at h
     ·rename_i c hc
      split at h
      ·rename_i hsz
       cases h
       obtain ⟨h1,h2,h3⟩:=hp.one
       refine ⟨?_,rfl,rfl⟩
       simp only [ai,hx,hi]
       rw [uv] at h3
       rw [if_pos ⟨hsz,h1,h2⟩,h3,hc]
       rfl
      ·cases h
     ·cases h
    ·cases h
   ·cases h
  ·exact qg h
 all_goals exact qg h
theorem GB {C:bB} {op:cO} {bV o':List eF} {D:List Nat} {st:St} {r:AV} {aO:List (Nat×aG)} {rd:List Nat} {ps:List Prop} {d:Nat} {dst:Option Nat} {K:St→Prop} (h:fX C op bV D st=some (r,aO,rd,o',ps,d)) (hp:cI ps) (hK:K (st.mL dst r aO d)) :
  b8 C dst K st op:=by
 cases hc:fM op
 ·obtain ⟨e,_,rfl⟩:=GA hc h hp
  cases op<;>first | (cases hc;done) | (simp only [b8];rw [e];exact hK)
 ·cases op<;>first | (cases hc;done) | skip
  rename_i f args
  simp only [fX] at h
  unfold DF at h
  split at h
  ·rename_i f' first bp hf
   simp only [b8,hf]
   split at h
   ·split at h
    ·rename_i dy hiv
     split at h
     ·rename_i hm;cases h;exact bF.pure (d:=5) hp.one hm hiv hK
     ·cases h
    ·cases h
   ·split at h
    ·rename_i bT ho
     split at h
     ·rename_i hm
      cases h
      cases hp with
      | cons h1 h2=>exact bF.oy (d:=5) h1 (Jl (Jm ho) h2.one) hm hK
     ·cases h
    ·cases h
   ·split at h
    ·rename_i bT ho
     split at h
     ·rename_i hm
      cases h
      exact bF.dn hp.one hm ho hK
     ·cases h
    ·cases h
   ·cases h
  ·cases h
theorem yY {gd:Option (Nat×Bool)} {bV o:List eF} {D D':List Nat} {st aY:St} {b:Bool} {ps:List Prop} (h:Xk gd bV D st=some (b,o,ps,D',aY)) (hp:cI ps):aY=st∧qd st.env gd=some b:=by
 unfold Xk at h
 split at h
 ·cases h;exact ⟨rfl,rfl⟩
 ·rename_i t want
  split at h
  ·rename_i e;cases h;exact ⟨rfl,by simp only [qd,e]⟩
  ·rename_i x e
   have cS:za st.env t=some (.ax (.bool x)):=by
    cases h1:za st.env t with
    | none=>rw [h1] at e;cases e
    | some y=>rw [h1] at e;simp only [Option.getD_some] at e;rw [e]
   split at h
   ·split at h
    ·cases h;exact ⟨rfl,by simp only [qd,e];cases b<;>rfl⟩
    ·cases h;exact ⟨rfl,by simp only [qd,e];cases want<;>rfl⟩
   ·split at h
    ·cases h;have:=hp.one;subst this;exact ⟨by rw [Jn cS],by simp only [qd,e];cases b<;>rfl⟩
    ·cases h;have:=hp.one;subst this;exact ⟨by rw [Jn cS],by simp only [qd,e];cases want<;>rfl⟩
    ·cases h
  ·cases h
theorem Y1 {C:bB} {it:aQ} {st:St} {b:Bool} {K:St→Prop} (hg:qd st.env it.guard=some b) (h1:b=true→b8 C it.dst K st it.op) (h2:b=false→K (st.after it.dst .undef [])):Xf C it K st:=by
 unfold Xf
 cases hgd:it.guard with
 | none=>rw [hgd] at hg;simp only [qd,Option.some.injEq] at hg;exact h1 hg.symm
 | some p=>
  obtain ⟨t,want⟩:=p
  rw [hgd] at hg
  simp only [qd] at hg
  simp only [Xe]
  split at hg
  ·rename_i x e
   rw [e]
   simp only [Option.some.injEq] at hg
   simp only
   rw [hg]
   cases b
   ·exact h2 rfl
   ·exact h1 rfl
  ·rename_i e
   rw [e]
   simp only [Option.some.injEq] at hg
   exact h2 hg.symm
  ·cases hg
theorem Y2 {C:bB}:∀ {items:List aQ} {j:Nat} {W R:List (Nat×Nat)} {bV:List eF} {D:List Nat} {st aY:St} {ps:List Prop} {K:St→Prop},Y0 C none items j W R bV D st=some (aY,ps)→cI ps→K aY→nv C items K st
 | [],j,W,R,bV,D,st,aY,ps,K,h,hp,hK=>by
  simp only [Y0] at h
  split at h
  ·cases h;exact hK
  ·cases h
 | it::rest,j,W,R,bV,D,st,aY,ps,K,h,hp,hK=>by
  simp only [Y0] at h
  split at h
  ·cases h
  ·rename_i o qs D' s hg
   split at h
   ·rename_i s2 rs hr
    cases h
    obtain ⟨p1,p2⟩:=hp.app
    obtain ⟨rfl,hgd⟩:=yY hg p1
    exact Y1 hgd (fun h=>by cases h) (fun _=>Y2 hr p2 hK)
   ·cases h
  ·rename_i o qs D' s hg
   split at h
   ·cases h
   ·rename_i r aO rd o' ps' d hop
    split at h
    ·cases h
    ·split at h
     ·rename_i s2 rs hr
      cases h
      obtain ⟨p1,p2⟩:=hp.app
      obtain ⟨p3,p4⟩:=p2.app
      obtain ⟨rfl,hgd⟩:=yY hg p1
      exact Y1 hgd (fun _=>GB hop p3 (Y2 hr p4 hK)) (fun h=>by cases h)
     ·cases h
theorem OP (ord:List Nat) (j:Nat) (W R:List (Nat×Nat)):xn ord j W R [] []=true:=by
 simp [xn]
def GC (C:Ctx) (dr:Option (List Nat)) (items:List aQ) (ks:List Nat) (bV:List eF) (st:St):Option (St×List Prop):=match Y0 C dr items 0 [] [] bV [] st with
 | some (s,ps)=>some (s.keep (some ks),ps)
 | none=>none
theorem j9 {C:bB} {nt:Fr} {o:List Nat} {items:List aQ} {ks:List Nat} {K:Exit→St→Prop} {st aY:St} (bV:List eF) {ps:List Prop} (hp:cI ps) (hK:K .normal aY) (h:GC C none items ks bV st=some (aY,ps)):cG C nt (.region false o items (some ks)) K st:=by
 unfold GC at h
 split at h
 ·rename_i s qs hr
  cases h
  exact QD (Y2 hr hp hK)
 ·cases h
end
theorem OQ {α:Type} (f:α→List IV) (l:List α):AK (ug f l) (l.length:Int):=by simp [AK]
theorem OR {α:Type} (f:α→List IV) {l:List α} {n:Int} {e:α} (h:zf l n=some e):Gc (ug f l) n (f e):=by
 obtain ⟨h1,h2,_⟩:=Xi h
 exact ⟨h1,by simp [h2]⟩
theorem GD {α:Type} (f:α→List IV) (sz:Nat) (hf:∀ x,(f x).length=sz) {l e:List α} {a b:Int} (h:yr l a b=some e):DA (ug f l) sz a b (ug f e):=by
 obtain ⟨h1,h2,h3,h4⟩:=Ox h
 exact ⟨h1,h2,by simpa using h3,by simp [hf],by rw [←h4];simp [uK,List.map_drop]⟩
theorem WV {k:IntKind} {a b e:Int} (h:vi k a b=some e):YY .rem (.int k a) (.int k b) (.int k e):=by
 obtain ⟨h1,h2⟩:=Oy h
 simp [YY,h1,h2]
section
variable {α β:Type}
def zl (len:Nat) (n:Int):Option Nat:=if 0≤n∧n < (len:Int) then some n.toNat else none
theorem zn {len k:Nat} {n:Int} (h:zl len n=some k):X2 n 0 len k:=by
 unfold zl at h;split at h
 ·rename_i hh;cases h;exact ⟨hh.1,hh.2,by omega⟩
 ·cases h
theorem zJ (f:α→List IV) {l:List α} {k:Nat} {e:α} (h:l[k]?=some e):YZ (zc f l) k (zj (f e)):=by
 unfold YZ zc;rw [ub,h];rfl
theorem zH (f:α→List IV) {l:List α} {k:Nat} {e:α} (e':α) (h:l[k]?=some e):Gd (zc f l) k (zj (f e)) (zj (f e')) (zc f (l.set k e')):=by
 refine ⟨zJ f h,?_⟩
 simp only [zc,List.map_set]
theorem X4 {l:List α} {k:Nat} {e:α} (e':α) (h:l[k]?=some e):(l.set k e')[k]?=some e':=by
 obtain ⟨hk,_⟩:=ua.1 h
 simp [hk]
def eD (bG:Nat) (n:Int):Option Nat:=if 0≤n∧n < 2 ^ 31∧n*bG≤140737488355328 then some n.toNat else none
theorem xa (f:α→List IV) (z:α) {bG k:Nat} {n:Int} (h:eD bG n=some k):DB n bG (zj (f z)) k (zc f (ue k z)):=by
 unfold eD at h;split at h
 ·rename_i hh;cases h;exact ⟨hh,rfl,by simp [zc]⟩
 ·cases h
theorem KS (row:List AV) {bG k:Nat} {n:Int} (h:eD bG n=some k):DB n bG row k (ue k row):=by
 unfold eD at h;split at h
 ·rename_i hh;cases h;exact ⟨hh,rfl,rfl⟩
 ·cases h
def wa (k:Nat) (d l:List α):Option (List α):=if k=d.length∧l.length=k then some l else none
theorem OS {k:Nat} {d l e:List α} (h:wa k d l=some e):k=d.length∧l.length=k∧e=l:=by
 unfold wa at h;split at h
 ·rename_i hh;cases h;exact ⟨hh.1,hh.2,rfl⟩
 ·cases h
theorem Xl (f:α→List IV) (sz:Nat) (hf:∀ x,(f x).length=sz) {k:Nat} {d l e:List α} (h:wa k d l=some e):Ge sz (zc f d) (ug (ug AV.ax) (ug f l)) (zc f e) k:=by
 obtain ⟨h1,h2,rfl⟩:=OS h
 refine ⟨by simpa [zc] using h1,by simpa using h2,by simp [hf],?_⟩
 simp only [zc,uL];congr 1
def qk (bG:Nat) (l m:List α):Option (List α):=if (l.length+m.length)*bG≤140737488355328 then some (l++m) else none
theorem qH (f:α→List IV) (sz bG:Nat) (hf:∀ x,(f x).length=sz) {l m e:List α} (h:qk bG l m=some e):DC sz bG (ug f l) (ug f m) (ug f e) l.length e.length:=by
 unfold qk at h;split at h
 ·rename_i hh;cases h;exact ⟨by simp [hf],by simp,by simpa using hh,by simp,by simp⟩
 ·cases h
end
def IV.i64 (n:Int):IV:=.int .i64 n
theorem xp (args:List AV) (bT:List (Nat×aG)) (dy:List IV) (h:aM (zE (za bT) 5) args=some dy):DE args bT dy:=h
theorem KU {α:Type} (f:α→List IV) (sz:Nat) (hf:∀ x,(f x).length=sz) {l e:List α} {a:Int} (h:yr l a (l.length:Int)=some e):DA (ug f l) sz a ((ug f l).length:Int) (ug f e):=by
 have:=GD f sz hf h
 rw [uy];exact this
def Xm (k k':IntKind) (a b:Int):Option Int:=if b < 0 then none else some (a.fdiv (2 ^ (min b.toNat k.bits)))
theorem OT {k k':IntKind} {a b e:Int} (h:Xm k k' a b=some e):YY .shr (.int k a) (.int k' b) (.int k e):=by
 unfold Xm at h
 split at h
 ·cases h
 ·rename_i hb;cases h;simp [YY,hb]
def zm {α β:Type} [DecidableEq α] (k:α):List (α×β)→Option β
 | []=>none
 | (k',v)::r=>if k=k' then some v else zm k r
def zN {α β:Type} [DecidableEq α] (k:α) (v:β):List (α×β)→List (α×β)
 | []=>[(k,v)]
 | (k',v')::r=>if k=k' then (k,v)::r else (k',v')::zN k v r
theorem kU {β:Type} (vf:β→IV) (k:Int) (es:List (Int×β)):qX (.int .i64 k) (zg IV.i64 vf es)=true:=by
 simp [qX,zg,IV.i64,qR]
theorem wS {β:Type} (vf:β→IV) (k:Int):∀ es:List (Int×β),zP (.int .i64 k) (zg IV.i64 vf es)=(zm k es).map fun v=>.ax (vf v)
 | []=>rfl
 | (k',v)::r=>by
  have ih:=wS vf k r
  simp only [zg,ui,zP,IV.i64,qR,if_true,zm] at ih ⊢
  by_cases e:k=k'
  ·subst e;simp
  ·simp only [beq_eq_false_iff_ne.2 e,if_neg e];exact ih
theorem Xn {β:Type} (vf:β→IV) (k:Int) (x:β):∀ es:List (Int×β),qF (.int .i64 k) (.ax (vf x)) (zg IV.i64 vf es)=zg IV.i64 vf (zN k x es)
 | []=>rfl
 | (k',v)::r=>by
  have ih:=Xn vf k x r
  simp only [zg,ui,qF,IV.i64,qR,if_true,zN] at ih ⊢
  by_cases e:k=k'
  ·subst e;simp
  ·simp only [beq_eq_false_iff_ne.2 e,if_neg e,ui];rw [ih]
theorem OU {β:Type} (vf:β→IV) (z:β) (k:Int) (es:List (Int×β)):BQ false (.ax (vf z)) (.int .i64 k) (zg IV.i64 vf es) (.ax (vf ((zm k es).getD z))) (zm k es).isSome:=by
 refine ⟨by rw [kU];rfl,?_⟩
 rw [wS]
 cases zm k es with
 | none=>exact .inr ⟨rfl,rfl,rfl⟩
 | some v=>exact .inl ⟨rfl,rfl⟩
theorem GF {β:Type} (vf:β→IV) (k:Int) (x:β) (es:List (Int×β)):DD false (.int .i64 k) (.ax (vf x)) (zg IV.i64 vf es) (zg IV.i64 vf (zN k x es)):=
 ⟨by rw [kU];rfl,Xn vf k x es⟩
theorem QF (a b:ByteArray):(a == b)=decide (a=b):=by
 obtain ⟨a⟩:=a
 obtain ⟨b⟩:=b
 rw [Bool.eq_iff_iff,decide_eq_true_iff]
 show (a == b)=true↔_
 simp
theorem Jo {β:Type} (vf:β→IV) (k:ByteArray) (es:List (ByteArray×β)):qX (.str k) (zg IV.str vf es)=true:=by
 simp [qX,zg,qR]
theorem JQ {β:Type} (vf:β→IV) (k:ByteArray):∀ es:List (ByteArray×β),zP (.str k) (zg IV.str vf es)=(zm k es).map fun v=>.ax (vf v)
 | []=>rfl
 | (k',v)::r=>by
  have ih:=JQ vf k r
  simp only [zg,ui,zP,qR,zm] at ih ⊢
  by_cases e:k=k'
  ·subst e;simp [QF]
  ·simp only [QF,decide_eq_false e,if_neg e];exact ih
theorem Xo {β:Type} (vf:β→IV) (k:ByteArray) (x:β):∀ es:List (ByteArray×β),qF (.str k) (.ax (vf x)) (zg IV.str vf es)=zg IV.str vf (zN k x es)
 | []=>rfl
 | (k',v)::r=>by
  have ih:=Xo vf k x r
  simp only [zg,ui,qF,qR,zN] at ih ⊢
  by_cases e:k=k'
  ·subst e;simp [QF]
  ·simp only [QF,decide_eq_false e,if_neg e,ui];rw [ih]
def xq {κ β:Type} [DecidableEq κ] (k:κ):List (κ×β)→List (κ×β)
 | []=>[]
 | (k',v')::r=>if k=k' then r else (k',v')::xq k r
theorem Xp {β:Type} (vf:β→IV) (k:ByteArray):∀ es:List (ByteArray×β),qW (.str k) (zg IV.str vf es)=zg IV.str vf (xq k es)
 | []=>rfl
 | (k',v)::r=>by
  have ih:=Xp vf k r
  simp only [zg,ui,qW,qR,xq] at ih ⊢
  by_cases e:k=k'
  ·subst e;simp [QF]
  ·simp only [QF,decide_eq_false e,if_neg e,ui];rw [ih]
theorem vA {α β:Type} (kf:α→IV) (vf:β→IV) (es:List (α×β)):BR (zg kf vf es) (es.length:Int):=by simp [BR,zg]
theorem KW {β:Type} (vf:β→IV) (k:ByteArray) (es:List (ByteArray×β)):Gf true (.str k) (zg IV.str vf es) (zg IV.str vf (xq k es)):=
 ⟨by rw [Jo];rfl,Xp vf k es⟩
theorem jX {β:Type} (vf:β→IV) (z:β) (k:ByteArray) (es:List (ByteArray×β)):BQ true (.ax (vf z)) (.str k) (zg IV.str vf es) (.ax (vf ((zm k es).getD z))) (zm k es).isSome:=by
 refine ⟨by rw [Jo];rfl,?_⟩
 rw [JQ]
 cases zm k es with
 | none=>exact .inr ⟨rfl,rfl,rfl⟩
 | some v=>exact .inl ⟨rfl,rfl⟩
theorem vC {β:Type} (vf:β→IV) (k:ByteArray) (x:β) (es:List (ByteArray×β)):DD true (.str k) (.ax (vf x)) (zg IV.str vf es) (zg IV.str vf (zN k x es)):=
 ⟨by rw [Jo];rfl,Xo vf k x es⟩
theorem VT {α:Type} (f:α→List IV) (h:Nat→Option aG) (d:Nat):∀ l:List α,aM (fun row:List AV=>aM (zE h (d+1)) row) (zc f l)=some (l.map f)
 | []=>rfl
 | x::l=>by
  have ih:=VT f h d l
  have h1:aM (zE h (d+1)) (zj (f x))=some (f x):=by
   generalize f x=r
   induction r with
   | nil=>rfl
   | cons a r ih=>simp only [zj,ui,aM,zE] at ih ⊢; rw [ih]
  simp only [zc,ui,aM] at ih ⊢
  rw [h1];simp only;rw [ih]
theorem GG {α:Type} (f:α→List IV) (h:Nat→Option aG) (d id sz:Nat) (l:List α) (ho:h id=some (.af sz (zc f l))):zE h (d+2) (.Zak id 0 l.length)=some (.slice (l.map f)):=by
 show (match h id with
  | some (.af _ af)=>if 0+l.length≤af.length then (aM (fun row:List AV=>aM (zE h (d+1)) row) ((af.drop 0).take l.length)).map IV.slice else none
  | _=>none)=_
 rw [ho]
 simp only [uA]
 rw [if_pos (by simp [zc]),uw (by simp [zc]),VT f h d l];rfl
end
def BT (m:Nat) (ov env:List (Nat×AV)):List Nat→Option (List (Nat×AV)×List Prop)
 | []=>some ([],[])
 | k::ks=>match za env k with
  | none=>none
  | some a=>match BT m ov env ks with
   | none=>none
   | some (l,ps)=>match za ov k with
    | some b=>match zR m b with
     | true=>some ((k,b)::l,(a=b)::ps)
     | false=>none
    | none=>match zR m a with
     | true=>some ((k,a)::l,ps)
     | false=>none
def Y3 (m:Nat):aG→Bool
 | .af _ af=>af.all fun row=>row.all (zR m)
 | .aV _ _=>true
 | .map es=>es.all fun e=>zR m e.2
 | .dead=>true
 | .lp _ _ _ _=>true
theorem vU {m:Nat} {o:aG} (h:Y3 m o=true):zQ m o:=by
 cases o<;>simp only [Y3,zQ] at h ⊢
 ·intro row hr x hx;exact ul.1 (ul.1 h row hr) x hx
 ·intro e he;exact ul.1 h e he
def BU (m:Nat) (ov heap:List (Nat×aG)):List (Nat×Bool)→Option (List (Nat×aG)×List Prop)
 | []=>some ([],[])
 | (k,f)::ks=>match za heap k with
  | none=>none
  | some a=>match BU m ov heap ks with
   | none=>none
   | some (l,ps)=>match decide (k < m) with
    | false=>none
    | true=>match za ov k with
     | some b=>match f with
      | true=>match Y3 m b with
       | true=>some ((k,b)::l,(a=b)::ps)
       | false=>none
      | false=>some ((k,b)::l,(a=b)::zQ m b::ps)
     | none=>match f with
      | true=>match Y3 m a with
       | true=>some ((k,a)::l,ps)
       | false=>none
      | false=>some ((k,a)::l,zQ m a::ps)
def GH (ks:List Nat) (hs:List (Nat×Bool)) (n:Nat) (ov:List (Nat×AV)) (DG:List (Nat×aG)) (st:St):Option (St×List Prop):=match decide (n≤st.next) with
 | false=>none
 | true=>match BT n ov st.env ks,BU n DG st.heap hs with
  | some (e,ps),some (h,qs)=>some (⟨e,h,n⟩,ps++qs)
  | _,_=>none
theorem Xq {m:Nat} {ov env:List (Nat×AV)}:∀ {ks:List Nat} {l:List (Nat×AV)} {ps:List Prop},BT m ov env ks=some (l,ps)→cI ps→∀ p∈l,za env p.1=some p.2∧zR m p.2=true
 | [],l,ps,h,hp=>by cases h;intro p hp;cases hp
 | k::ks,l,ps,h,hp=>by
  simp only [BT] at h
  split at h
  ·cases h
  ·rename_i a ha
   split at h
   ·cases h
   ·rename_i l' ps' hr
    split at h
    ·split at h
     ·rename_i b hb pP
      cases h
      cases hp with
      | cons h1 h2=>
       intro p hp
       rcases ud.1 hp with rfl | hp
       ·exact ⟨by rw [ha,h1],pP⟩
       ·exact Xq hr h2 p hp
     ·cases h
    ·split at h
     ·rename_i pP
      cases h
      intro p oD
      rcases ud.1 oD with rfl | oD
      ·exact ⟨ha,pP⟩
      ·exact Xq hr hp p oD
     ·cases h
theorem vV {m:Nat} {ov heap:List (Nat×aG)}:∀ {ks:List (Nat×Bool)} {l:List (Nat×aG)} {ps:List Prop},BU m ov heap ks=some (l,ps)→cI ps→∀ p∈l,za heap p.1=some p.2∧p.1 < m∧zQ m p.2
 | [],l,ps,h,hp=>by cases h;intro p hp;cases hp
 | (k,f)::ks,l,ps,h,hp=>by
  simp only [BU] at h
  split at h
  ·cases h
  ·rename_i a ha
   split at h
   ·cases h
   ·rename_i l' ps' hr
    split at h
    ·cases h
    ·rename_i hk
     have hk:=of_decide_eq_true hk
     split at h
     ·rename_i b hb
      split at h
      ·split at h
       ·rename_i pP
        cases h
        cases hp with
        | cons h1 h2=>
         intro p hp
         rcases ud.1 hp with rfl | hp
         ·exact ⟨by rw [ha,h1],hk,vU pP⟩
         ·exact vV hr h2 p hp
       ·cases h
      ·cases h
       cases hp with
       | cons h1 h2=>
        cases h2 with
        | cons h3 h4=>
         intro p hp
         rcases ud.1 hp with rfl | hp
         ·exact ⟨by rw [ha,h1],hk,h3⟩
         ·exact vV hr h4 p hp
     ·split at h
      ·split at h
       ·rename_i pP
        cases h
        intro p oD
        rcases ud.1 oD with rfl | oD
        ·exact ⟨ha,hk,vU pP⟩
        ·exact vV hr hp p oD
       ·cases h
      ·cases h
       cases hp with
       | cons h3 h4=>
        intro p oD
        rcases ud.1 oD with rfl | oD
        ·exact ⟨ha,hk,h3⟩
        ·exact vV hr h4 p oD
theorem GI {st aY:St} (ks:List Nat) (hs:List (Nat×Bool)) (n:Nat) (ov:List (Nat×AV)) (DG:List (Nat×aG)) {ps:List Prop} (hp:cI ps) (h:GH ks hs n ov DG st=some (aY,ps)):bS st aY:=by
 unfold GH at h
 split at h
 ·cases h
 ·rename_i hn
  split at h
  ·rename_i e qs hh rs he OV
   cases h
   obtain ⟨p1,p2⟩:=hp.app
   exact XX (of_decide_eq_true hn) (Xq he p1) (vV OV p2)
  ·cases h
theorem bF.cA {C:Ctx} {f:Nat} {args:List AV} {heap:List (Nat×aG)} {next:Nat} {K K':AV→List (Nat×aG)→Nat→Prop} (hc:bF C f args heap next K)
  (hk:∀ r h n,K r h n→∃ r' h' n',K' r' h' n'∧next≤n'∧bS ⟨[(0,r)],h,n⟩ ⟨[(0,r')],h',n'⟩):bF C f args heap next K':=by
 refine ⟨hc.1,fun g w vs R hv=>(hc.2 g w vs R hv).mono ?_⟩
 rintro e w' ⟨v,r,heap',next',g',rfl,hK,E,R',hx⟩
 obtain ⟨r',h',n',hK',hn,hw⟩:=hk r heap' next' hK
 let a:Act:={tmps := #[v],defers:=[]}
 have hrel:Rel C ⟨1,0⟩ g' ⟨[(0,r)],heap',next'⟩ a w':=⟨⟨rfl,Marks.nil _ (uH _),fun t x hx'=>by
  simp only [za] at hx'
  split at hx'
  ·rename_i e;subst e;cases hx';exact hx
  ·cases hx'⟩,R'⟩
 obtain ⟨g2,R2,hE⟩:=hw C ⟨1,0⟩ g' a w' hrel
 exact ⟨v,r',h',n',g2,rfl,hK',hE g ⟨[],heap,next⟩ w hn E,R2.heap,R2.env.slot 0 r' rfl⟩
def GJ (rs:List dL) (r:AV) (heap:List (Nat×aG)) (n:Nat):Exit→St→Prop
 | .ret,st | .normal,st=>∃ x,jD rs st=some x∧bS ⟨[(0,x)],st.heap,st.next⟩ ⟨[(0,r)],heap,n⟩
 | _,_=>False
def X5 (m:Nat) (heap:List (Nat×aG)):Bool:=(List.range m).all fun i=>(za heap i).isSome
theorem GK {m:Nat} {heap:List (Nat×aG)} (h:X5 m heap=true):∀ i,i < m→(za heap i).isSome=true:=fun i hi=>by
 simp only [X5,ul,List.mem_range] at h
 exact h i hi
def zC:Nat:=1000000
def vD (b:Nat) (L:List Int):List AV:=[bif uF b 2000000 then .aU b (L.map zb) else .ax (.slice (L.map zb))]
def qq:Nat→List (List Int)→List (List AV)
 | _,[]=>[]
 | b,L::r=>vD b L::qq (b+1) r
theorem ky:∀ (Ls:List (List Int)) (b k:Nat),(qq b Ls)[k]?=(Ls[k]?).map (vD (b+k))
 | [],b,k=>by simp [qq]
 | L::r,b,0=>by simp [qq]
 | L::r,b,k+1=>by
  simp only [qq,List.getElem?_cons_succ]
  rw [ky r (b+1) k,show b+1+k=b+(k+1) by omega]
theorem wy {b:Nat} (h:b < 2000000) (L:List Int):vD b L=[.aU b (L.map zb)]:=by
 have:uF b 2000000=true:=by simpa [uJ] using h
 simp [vD,this]
theorem yZ {b:Nat} (h:¬ b < 2000000) (L:List Int):vD b L=[.ax (.slice (L.map zb))]:=by
 have:uF b 2000000=false:=by
  cases e:uF b 2000000 with
  | false=>rfl
  | true=>exact absurd (by simpa [uJ] using e) h
 simp [vD,this]
theorem OW {nx b:Nat} (h2:2000000≤nx) (L:List Int):∀ x∈vD b L,zR nx x=true:=by
 intro x hx
 by_cases hb:b < 2000000
 ·rw [wy hb] at hx
  have:x=.aU b (L.map zb):=by simpa using hx
  subst this
  simp only [zR,xD,zL,decide_eq_true_eq];omega
 ·rw [yZ hb] at hx
  have:x=.ax (.slice (L.map zb)):=by simpa using hx
  subst this;rfl
theorem OX {nx:Nat} (h2:2000000≤nx) (Ls:List (List Int)) (b:Nat):zQ nx (.af 1 (qq b Ls)):=by
 intro row hrow x hx
 obtain ⟨k,hk⟩:=List.mem_iff_getElem?.1 hrow
 rw [ky] at hk
 obtain ⟨L,_,rfl⟩:=uc.1 hk
 exact OW h2 L x hx
def GL (b:Nat) (L:List Int):AV:=bif uF b 2000000 then .aU b (L.map zb) else .ax (.slice (L.map zb))
def DH:Nat→List (Int×List Int)→List (IV×AV)
 | _,[]=>[]
 | b,(k,L)::r=>(.int .i64 k,GL b L)::DH (b+1) r
theorem Wy {nx:Nat} (h2:2000000≤nx):∀ (ms:List (Int×List Int)) (b:Nat),∀ e∈DH b ms,zR nx e.2=true
 | [],b,e,he=>by cases he
 | (k,L)::r,b,e,he=>by
  rcases ud.1 he with rfl | he
  ·simp only [GL]
   cases hb:uF b 2000000 with
   | true=>
    have hb:b < 2000000:=by simpa [uJ] using hb
    simp only [cg,zR,xD,zL,decide_eq_true_eq];omega
   | false=>rfl
  ·exact Wy h2 r (b+1) e he
inductive cq (m:Nat):List (Nat×aG)→Prop where
 | nil:cq m []
 | exp {k:Nat} {o:aG} {r:List (Nat×aG)} (hk:decide (k < m)=true) (ho:Y3 m o=true) (t:cq m r):cq m ((k,o)::r)
 | af {k sz:Nat} {α:Type} {f:α→List IV} {l:List α} {r:List (Nat×aG)} (hk:decide (k < m)=true) (t:cq m r):cq m ((k,.af sz (zc f l))::r)
 | bU {k:Nat} {α β:Type} {kf:α→IV} {vf:β→IV} {es:List (α×β)} {r:List (Nat×aG)} (hk:decide (k < m)=true) (t:cq m r):cq m ((k,.map (zg kf vf es))::r)
 | nest {k:Nat} {Ls:List (List Int)} {r:List (Nat×aG)} (hk:decide (k < m)=true) (hn:Nat.ble 2000000 m=true) (t:cq m r):cq m ((k,.af 1 (qq zC Ls))::r)
 | AM {k:Nat} {ms:List (Int×List Int)} {r:List (Nat×aG)} (hk:decide (k < m)=true) (hn:Nat.ble 2000000 m=true) (t:cq m r):cq m ((k,.map (DH zC ms))::r)
theorem cq.all {m:Nat} {l:List (Nat×aG)} (h:cq m l):∀ p∈l,p.1 < m∧zQ m p.2:=by
 induction h with
 | nil=>intro p hp;cases hp
 | exp hk ho t ih=>
  intro p hp
  rcases ud.1 hp with rfl | hp
  ·exact ⟨of_decide_eq_true hk,vU ho⟩
  ·exact ih p hp
 | af hk t ih=>
  intro p hp
  rcases ud.1 hp with rfl | hp
  ·exact ⟨of_decide_eq_true hk,yX _ _ _ _⟩
  ·exact ih p hp
 | bU hk t ih=>
  intro p hp
  rcases ud.1 hp with rfl | hp
  ·exact ⟨of_decide_eq_true hk,OG _ _ _ _⟩
  ·exact ih p hp
 | nest hk hn t ih=>
  intro p hp
  rcases ud.1 hp with rfl | hp
  ·exact ⟨of_decide_eq_true hk,OX (uz hn) _ _⟩
  ·exact ih p hp
 | AM hk hn t ih=>
  intro p hp
  rcases ud.1 hp with rfl | hp
  ·exact ⟨of_decide_eq_true hk,Wy (uz hn) _ _⟩
  ·exact ih p hp
theorem cV.start {C:Ctx} {f:Nat} {F:dz} (hF:qo C f=some F.erase) {args:List AV} {heap bL:List (Nat×aG)} {m d:Nat} {r:AV} (hn:args.length≤F.nt) (b0:cq m heap) (b1:cq (m+d) bL) (hka:args.all (zR m)=true) (hkr:zR (m+d) r=true) (k0:X5 m heap=true) (k1:X5 m bL=true)
  (h:∀ B,cG C.plain ⟨F.nt,B⟩ F.body (GJ F.results r bL (m+d)) ⟨jm 0 args,heap,m⟩):cV C f args heap m r bL d where
 dn:=by
  have h1:bF C f args heap m fun x hp n=>bS ⟨[(0,x)],hp,n⟩ ⟨[(0,r)],bL,m+d⟩:=bF.enter hF hn (fun B=>qY (fun e st hk=>by
   cases e with
   | ret=>obtain ⟨x,h1,h2⟩:=hk;exact ⟨.inl rfl,x,h1,h2⟩
   | normal=>obtain ⟨x,h1,h2⟩:=hk;exact ⟨.inr rfl,x,h1,h2⟩
   | _=>exact hk.elim) (h B))
  exact h1.cA fun x hp n hw=>⟨r,bL,m+d,⟨rfl,rfl,rfl⟩,by omega,hw⟩
 k0:=b0.all
 ka:=fun x hx=>ul.1 hka x hx
 k1:=b1.all
 kr:=hkr
 all:=GK k1
 AG:=GK k0
section
section
variable {C:Ctx} {g g':Gh} {h h':Nat→Option aG} {N N':Nat→Prop} {w w':World} {id:Nat}
theorem KX {st:St} {t:Nat} {x y:AV} {aO:List (Nat×aG)} (ht:za st.env t=some x)
  (hg:∀ (C:Ctx) (g:Gh) (w:World) (v:Value),RH C g (za st.heap) (· < st.next) w→RV C g (za st.heap) (· < st.next) w x v→Good C g (za st.heap) (· < st.next) w st.next y aO v w) :
  bS st ⟨zo st.env t y,zG aO st.heap,st.next+1⟩:=by
 intro C nt g a w R
 obtain ⟨g',E,H,hv⟩:=hg C g w _ R.heap (R.env.slot t x ht)
 rw [xm] at E H hv
 rw [←jK] at E H hv
 refine ⟨g',⟨⟨R.env.size,R.env.defers.eO E,fun t' z hz => ?_⟩,H⟩,fun g0 cK w0 hm E0=>E0.trans E⟩
 rw [zp] at hz
 split at hz
 ·rename_i e;subst e;cases hz;exact hv
 ·exact (R.env.slot t' z hz).mono E
theorem KY {st:St} {t:Nat} (sz:Nat) (ht:za st.env t=some .nil):bS st ⟨zo st.env t (.Zak st.next 0 0),zG [(st.next,.af sz [])] st.heap,st.next+1⟩:=
 KX ht fun C g w v R hv=>by rw [xl hv];exact KF R (un _) sz
theorem KZ {st:St} {t i len sz:Nat} {af:List (List AV)} (ht:za st.env t=some (.Zak i 0 len)) (ho:za st.heap i=some (.af sz af)) (hl:len=af.length) :
  bS st ⟨zo st.env t (.Zak st.next 0 len),zG [(st.next,.af sz af),(i,.dead)] st.heap,st.next+1⟩:=
 KX ht fun C g w v R hv=>FI R (un _) hv ho hl
theorem OY (st:St) (n:Nat) (hn:st.next≤n):bS st ⟨st.env,st.heap,n⟩:=by
 intro C nt g a w R
 have E:bW g (za st.heap) (· < st.next) w g (za st.heap) (· < n) w:={bW.refl g (za st.heap) (· < st.next) w with
  next:=fun i hi=>ut hi hn}
 refine ⟨g,⟨⟨R.env.size,R.env.defers,fun t x hx=>(R.env.slot t x hx).mono E⟩,⟨R.heap.inj,fun i b hb=>⟨(R.heap.lt i b hb).1,ut (R.heap.lt i b hb).2 hn⟩,fun i o ho=>ut (R.heap.key i o ho) hn,fun i b o hb ho=>(R.heap.obj i b o hb ho).keep E rfl rfl,R.heap.cQ,R.heap.dX,R.heap.fix.eO E⟩⟩,fun g0 cK w0 hm E0=>E0.trans E⟩
theorem bS.trans {s1 s2 s3:St} (h1:bS s1 s2) (h2:bS s2 s3) (hn:s3.next≤s2.next∨True):∀ (C:Ctx) (nt:Fr) (g:Gh) (a:Act) (w:World),Rel C nt g s1 a w→∃ g',Rel C nt g' s3 a w∧∀ g0 cK w0,cK.next≤s2.next→cK.next≤s3.next→dB g0 cK w0 g s1 w→dB g0 cK w0 g' s3 w:=by
 intro C nt g a w R
 obtain ⟨g1,R1,e1⟩:=h1 C nt g a w R
 obtain ⟨g2,R2,e2⟩:=h2 C nt g1 a w R1
 exact ⟨g2,R2,fun g0 cK w0 a1 a2 E=>e2 g0 cK w0 a2 (e1 g0 cK w0 a1 E)⟩
theorem bF.oF {f:Nat} {rest:List AV} {heap:List (Nat×aG)} {next:Nat} {K:AV→List (Nat×aG)→Nat→Prop} (h1:bF C f (.nil::rest) heap next K) (h2:bF C f (.cw::rest) heap next K):bF C f (.ax (.slice [])::rest) heap next K:=by
 refine ⟨h1.1,fun g w vs R hv => ?_⟩
 obtain ⟨hl,hv⟩:=hv
 cases vs with
 | nil=>simp at hl
 | cons v vs=>
  have gl:=hv 0 _ v rfl rfl
  have key:∀ x,RV C g (za heap) (· < next) w x v→nG C g (za heap) (· < next) w (x::rest) (v::vs):=fun x hx=>⟨by simpa using hl,fun j y u hj hu=>by
   cases j with
   | zero=>simp at hj hu;subst hj hu;exact hx
   | succ j=>exact hv (j+1) y u hj hu⟩
  cases gl with
  | ax _ _ hr=>
   cases hr with
   | nil=>exact h1.2 g w _ R (key _ .nil)
   | empty a cap=>exact h2.2 g w _ R (key _ (.cw a cap))
   | slice _ b off cap sz cv hcap=>exact h2.2 g w _ R (key _ (.cw ⟨b,off,none⟩ cap))
def jL (sz bG:Nat) (zero:List AV):dz:=⟨8,[.tmp 2],(
 .seq (.region false [] [⟨some 2,.dR (.c (.nil)),none⟩] (some [0])) (
  .seq (.seq (.region false [] [⟨some 3,.dR (.t 0),none⟩,⟨some 4,.eS false (.t 3) (.c (.nil)),none⟩] (some [0,4])) (
    .cond (.t 4) (.seq (.region false [] [⟨some 2,.dR (.c (.nil)),none⟩] (some [2])) (.ret)) (.skip))) (
   .seq (.region false [] [⟨some 5,.cZ sz zero 0 [],none⟩,⟨some 6,.dR (.t 0),none⟩,⟨some 7,.app sz bG (.t 5) (.t 6),none⟩,⟨some 2,.dR (.t 7),none⟩] (some [2])) (.ret))))⟩
def qc {α:Type} (bG:Nat) (l:List α):Option (List α):=if l.length*bG≤140737488355328 then some l else none
theorem ef {α:Type} {n sz bG:Nat} {zero:List AV} (hF:qo C n=some (jL sz bG zero).erase) (f:α→List IV) (hf:∀ x,(f x).length=sz) {l e:List α} (h:qc bG l=some e) :
  cV C n [.ax (.slice (ug f l))] [] 0 (.Zak 7 0 e.length) [(7,.af sz (zc f e))] 8:=by
 unfold qc at h
 split at h
 case isFalse=>cases h
 rename_i hb
 cases h
 refine ⟨?_,by simp,by simp [zR,xD,zL],?_,by simp [zR,xD,zL],by simp,by simp⟩
 ·unfold Dx
  cases l with
  | nil=>
   refine bF.oF ?_ ?_
   ·have h1:bF C n [.nil] [] 0 fun r hp nx=>r=.nil∧hp=[]∧nx=4:=by
     refine bF.run hF (by simp [jL]) (fun B => ?_)
     simp [jL]
    refine (h1.cA (K':=fun r hp nx=>r=.nil∧hp=[]∧nx=7) ?_).cA ?_
    ·rintro r hp nx ⟨rfl,rfl,rfl⟩
     exact ⟨_,_,_,⟨rfl,rfl,rfl⟩,by omega,OY _ 7 (by simp)⟩
    ·rintro r hp nx ⟨rfl,rfl,rfl⟩
     exact ⟨_,_,_,⟨rfl,rfl,rfl⟩,by omega,KY (t:=0) sz rfl⟩
   ·have h1:bF C n [.cw] [] 0 fun r hp nx=>r=.Zak 5 0 0∧hp=[(3,.dead),(5,.af sz [])]∧nx=7:=by
     refine bF.run hF (by simp [jL]) (fun B => ?_)
     simp [jL,JX]
    refine (h1.cA (K':=fun r hp nx=>r=.Zak 7 0 0∧hp=[(3,.dead),(5,.dead),(7,.af sz [])]∧nx=8) ?_).cA ?_
    ·rintro r hp nx ⟨rfl,rfl,rfl⟩
     exact ⟨_,_,_,⟨rfl,rfl,rfl⟩,by omega,KZ (t:=0) (i:=5) (len:=0) (sz:=sz) (af:=[]) rfl rfl rfl⟩
    ·rintro r hp nx ⟨rfl,rfl,rfl⟩
     exact ⟨_,_,_,⟨rfl,rfl,rfl⟩,by omega,GI [0] [(7,true)] 8 [] [] cI.nil (by kernel_rfl)⟩
  | cons x xs=>
   have h1:bF C n [.ax (.slice (ug f (x::xs)))] [] 0 fun r hp nx=>r=.Zak 5 0 (x::xs).length∧hp=[(3,.dead),(5,.af sz (zc f (x::xs)))]∧nx=7:=by
    refine bF.run hF (by simp [jL]) (fun B => ?_)
    simp [jL,JX,hf]
    have hb':(xs.length+1)*bG≤140737488355328:=by simpa using hb
    rw [if_pos hb']
    simp [zc,zj,Function.comp_def]
   refine (h1.cA (K':=fun r hp nx=>r=.Zak 7 0 (x::xs).length∧hp=[(3,.dead),(5,.dead),(7,.af sz (zc f (x::xs)))]∧nx=8) ?_).cA ?_
   ·rintro r hp nx ⟨rfl,rfl,rfl⟩
    exact ⟨_,_,_,⟨rfl,rfl,rfl⟩,by omega,KZ (t:=0) (i:=5) (len:=(x::xs).length) (sz:=sz) (af:=zc f (x::xs)) rfl rfl (by simp [zc])⟩
   ·rintro r hp nx ⟨rfl,rfl,rfl⟩
    exact ⟨_,_,_,⟨rfl,rfl,rfl⟩,by omega,GI [0] [(7,false)] 8 [] [] (cI.cons (yX 8 sz f (x::xs)) .nil) (by kernel_rfl)⟩
 ·intro p hp
  simp only [List.mem_singleton] at hp
  subst hp
  exact ⟨by omega,yX _ _ _ _⟩
end
end
section
def Zh (id:Nat) (af:List (List IV)):AV→AV
 | .Zak i o n=>if i=id then .ax (.slice af) else .Zak i o n
 | x=>x
def Zi (id off len:Nat):AV→List Prop
 | .Zak i o n=>if i=id then [o=off∧n=len] else []
 | _=>[]
def VU (id off len:Nat):AV→List Prop
 | .agg cs=>cs.flatMap (Zi id off len)
 | .tuple cs=>cs.flatMap (Zi id off len)
 | x=>Zi id off len x
def DI (id off len:Nat):aG→List Prop
 | .af _ rs=>rs.flatMap fun r=>r.flatMap (VU id off len)
 | _=>[]
def Y4 (id off len:Nat):List (Nat×AV)→List Prop
 | []=>[]
 | (_,x)::r=>VU id off len x++Y4 id off len r
def WW (id off len:Nat) (ks:List Nat):List (Nat×aG)→List Prop
 | []=>[]
 | (k,o)::r=>(if ks.contains k then DI id off len o else [])++WW id off len ks r
theorem cI.mem {ps:List Prop} (h:cI ps) {p:Prop} (hp:p∈ps):p:=by
 induction h with
 | nil=>cases hp
 | cons h t ih=>
  rcases ud.1 hp with e | e
  ·rw [e];exact h
  ·exact ih e
theorem cI.sub {ps qs:List Prop} (h:cI ps) (hs:∀ p∈qs,p∈ps):cI qs:=by
 induction qs with
 | nil=>exact .nil
 | cons q qs ih=>exact .cons (h.mem (hs q (by simp))) (ih fun p hp=>hs p (by simp [hp]))
theorem GM {id off len t:Nat} {x:AV}:∀ {env:List (Nat×AV)},za env t=some x→∀ p∈VU id off len x,p∈Y4 id off len env
 | [],h,p,hp=>by cases h
 | (k,y)::r,h,p,hp=>by
  simp only [za] at h
  simp only [Y4,ur]
  split at h
  ·cases h;exact .inl hp
  ·exact .inr (GM h p hp)
theorem GN {id off len i:Nat} {ks:List Nat} {o:aG} (hi:ks.contains i=true):∀ {heap:List (Nat×aG)},za heap i=some o→∀ p∈DI id off len o,p∈WW id off len ks heap
 | [],h,p,hp=>by cases h
 | (k,y)::r,h,p,hp=>by
  simp only [za] at h
  simp only [WW,ur]
  split at h
  ·rename_i e;subst e;cases h;rw [if_pos hi];exact .inl hp
  ·exact .inr (GN hi h p hp)
def Jp (id:Nat) (af:List (List IV)):AV→AV
 | .agg cs=>.agg (cs.map (Zh id af))
 | .tuple cs=>.tuple (cs.map (Zh id af))
 | x=>Zh id af x
def xN (id:Nat) (af:List (List IV)):aG→aG
 | .af sz rs=>.af sz (rs.map fun r=>r.map (Jp id af))
 | o=>o
def Jq (id:Nat) (af:List (List IV)) (ks:List Nat):List (Nat×aG)→List (Nat×aG)
 | []=>[]
 | (k,o)::r=>(k,if k=id then .dead else if ks.contains k then xN id af o else o)::Jq id af ks r
def Y5 (id:Nat) (af:List (List IV)):List (Nat×AV)→List (Nat×AV)
 | []=>[]
 | (k,x)::r=>(k,Jp id af x)::Y5 id af r
theorem VV (id:Nat) (af:List (List IV)):∀ (env:List (Nat×AV)) (t:Nat),za (Y5 id af env) t=(za env t).map (Jp id af)
 | [],t=>rfl
 | (k,x)::r,t=>by
  simp only [Y5,za]
  split
  ·rfl
  ·exact VV id af r t
theorem kV (id:Nat) (af:List (List IV)) (ks:List Nat):∀ (heap:List (Nat×aG)) (i:Nat),za (Jq id af ks heap) i=(za heap i).map fun o=>if i=id then .dead else if ks.contains i then xN id af o else o
 | [],i=>rfl
 | (k,o)::r,i=>by
  simp only [Jq,za]
  split
  ·rename_i e;subst e;rfl
  ·exact kV id af ks r i
theorem Wz {st:St} (id sz off len:Nat) (all af:List (List IV)) (ks:List Nat) (iH:List (List AV)) (ho:za st.heap id=some (.af sz iH)) (hrows:all.map (fun r=>r.map AV.ax)=iH) (hD:(all.drop off).take len=af) (AN:cI (Y4 id off len st.env++WW id off len ks st.heap)):bS st ⟨Y5 id af st.env,Jq id af ks st.heap,st.next⟩:=by
 subst hrows
 intro C nt g a w R
 obtain ⟨RE,R⟩:=R
 let g':Gh:=⟨fun i=>if i=id then none else g.ρ i,fun b=>if g.ρ id=some b then max (g.Z b) (all.length*sz) else g.Z b⟩
 have hr:∀ i b,g'.ρ i=some b→i≠id∧g.ρ i=some b:=fun i b h=>by
  simp only [g'] at h
  split at h
  ·cases h
  ·exact ⟨‹_›,h⟩
 have hr':∀ i,i≠id→g'.ρ i=g.ρ i:=fun i h=>by simp only [g',if_neg h]
 have hz:∀ b,g.Z b≤g'.Z b:=fun b=>by simp only [g'];split<;>omega
 have gL:∀ b,¬ g.ρ id=some b→g'.Z b=g.Z b:=fun b h=>by simp only [g',if_neg h]
 have hh:∀ i o,za (Jq id af ks st.heap) i=some o→(i=id∧o=.dead)∨(i≠id∧∃ o0,za st.heap i=some o0∧(o=o0∨(ks.contains i=true∧o=xN id af o0))):=fun i o h=>by
  rw [kV,uc] at h
  obtain ⟨o0,h1,h2⟩:=h
  split at h2
  ·rename_i e;exact .inl ⟨e,h2.symm⟩
  ·rename_i e
   split at h2
   ·rename_i hk;exact .inr ⟨e,o0,h1,.inr ⟨hk,h2.symm⟩⟩
   ·exact .inr ⟨e,o0,h1,.inl h2.symm⟩
 have E:bW g (za st.heap) (· < st.next) w g' (za (Jq id af ks st.heap)) (· < st.next) w:={
  os:=rfl
  tape:=rfl
  output:=rfl
  size:=uh _
  old:=fun b _ hno=>⟨rfl,gL b fun e=>hno ⟨id,e⟩⟩
  own:=fun b ⟨i,hi⟩=>.inl ⟨i,(hr i b hi).2⟩
  bY:=hz
  cell:=iD.refl _ _
  shape:=fun b c e h=>⟨c,h,rfl⟩
  next:=fun _ h=>h
  eb:=fun i b hb o ho' hnd _=>by
   rcases hh i o ho' with ⟨_,h2⟩ | ⟨h1,_⟩
   ·exact absurd h2 hnd
   ·exact .inl (by rw [hr' i h1];exact hb)
  cE:=fun i hb _ o ho' hnd=>by
   rcases hh i o ho' with ⟨_,h2⟩ | ⟨h1,_⟩
   ·exact absurd h2 hnd
   ·exact .inl (by rw [hr' i h1];exact hb)
  af:=fun i _ s r ho'=>by
   rcases hh i _ ho' with ⟨_,h2⟩ | ⟨_,o0,h2,h3 | ⟨_,h3⟩⟩
   ·cases h2
   ·subst h3;exact ⟨r,h2,rfl⟩
   ·cases o0<;>simp only [xN] at h3<;>cases h3
    exact ⟨_,h2,by simp⟩
  cR:=fun i _ s l ho'=>by
   rcases hh i _ ho' with ⟨_,h2⟩ | ⟨_,o0,h2,h3 | ⟨_,h3⟩⟩
   ·cases h2
   ·subst h3;exact ⟨l,h2,uh _⟩
   ·cases o0<;>simp only [xN] at h3<;>cases h3
    exact ⟨_,h2,uh _⟩
  maps:=fun i _ es ho'=>by
   rcases hh i _ ho' with ⟨_,h2⟩ | ⟨_,o0,h2,h3 | ⟨_,h3⟩⟩
   ·cases h2
   ·subst h3;exact ⟨es,h2⟩
   ·cases o0<;>simp only [xN] at h3<;>cases h3
    exact ⟨_,h2⟩
  fB:=fun i _ ll RR s pe ho'=>by
   rcases hh i _ ho' with ⟨_,h2⟩ | ⟨_,o0,h2,h3 | ⟨_,h3⟩⟩
   ·cases h2
   ·subst h3;exact ⟨s,pe,h2⟩
   ·cases o0<;>simp only [xN] at h3<;>cases h3
    exact ⟨_,_,h2⟩}
 have leaf:∀ {x:AV} {v:Value},cI (Zi id off len x)→RV C g (za st.heap) (· < st.next) w x v→RV C g' (za (Jq id af ks st.heap)) (· < st.next) w (Zh id af x) v:=by
  intro x v tK hv
  cases x with
  | Zak i off' len'=>
   simp only [Zh]
   split
   ·rename_i e
    subst e
    simp only [Zi,if_true] at tK
    obtain ⟨rfl,rfl⟩:=tK.one
    rw [←hD]
    cases hv with
    | Zak _ _ _ _ hid h1 hp=>
     obtain ⟨h2,h3⟩:=hp sz _ ho
     simp only [uy] at h2
     have hlen:((all.drop off').take len').length=len':=by rw [List.length_take,List.length_drop];omega
     rcases h3 with ⟨a1,a2,a3⟩ | ⟨b,cap,c,e,b1,b2,b3,b4,b5⟩
     ·simp only [List.map_eq_nil_iff] at a2
      subst a2 a3
      have:len'=0:=by simp at h2;omega
      subst this
      simp only [List.drop_nil,List.take_nil]
      exact .ax _ _ .nil
     ·subst b2
      have mD:=R.obj _ b _ b1 ho
      simp only [cC] at mD
      obtain ⟨z0,c2,e2,c3,c4,c5⟩:=mD
      rw [b4] at c3
      cases c3
      have cS:∀ (k:Nat) (row:List IV) (j:Nat) (y:IV),((all.drop off').take len')[k]?=some row→row[j]?=some y→all[off'+k]?=some row∧off'+k < all.length∧row.length=sz∧j < sz:=fun k row j y hk hj=>by
       have hk':k < len':=by rw [←hlen];exact (ua.1 hk).1
       rw [uD,if_pos hk',uE] at hk
       have hl:=c4 (off'+k) (row.map AV.ax) (by rw [ub,hk];rfl)
       simp only [uy] at hl
       exact ⟨hk,(ua.1 hk).1,hl,by rw [←hl];exact (ua.1 hj).1⟩
      refine .ax _ _ ?_
      have:=RI.slice (Z:=g'.Z) (w:=w) ((all.drop off').take len') b (off'*sz) cap sz (fun k j=>(c[(off'+k)*sz+j]?).getD default) (by rw [hlen];exact b3)
       (fun k row hk=>by
        have hk':k < len':=by rw [←hlen];exact (ua.1 hk).1
        rw [uD,if_pos hk',uE] at hk
        have hl:=c4 (off'+k) (row.map AV.ax) (by rw [ub,hk];rfl)
        simpa using hl)
       (fun k row j y hk hj=>by
        obtain ⟨q1,q2,q3,q4⟩:=cS k row j y hk hj
        have e1:off'*sz+k*sz+j=(off'+k)*sz+j:=by rw [uB]
        rw [e1]
        have e2:(off'+k+1)*sz≤all.length*sz:=uo _ q2
        rw [uB (off'+k) 1] at e2
        simp only [g',if_pos b1]
        omega)
       (fun k row j y hk hj=>by
        obtain ⟨q1,q2,q3,q4⟩:=cS k row j y hk hj
        obtain ⟨cv,u1,u2,u3⟩:=c5 (off'+k) (row.map AV.ax) j (.ax y) (by rw [ub,q1];rfl) (by rw [ub,hj];rfl)
        have e1:off'*sz+k*sz+j=(off'+k)*sz+j:=by rw [uB]
        rw [e1,qB b4,u1]
        exact ⟨rfl,u2⟩)
       (fun k row j y hk hj=>by
        obtain ⟨q1,q2,q3,q4⟩:=cS k row j y hk hj
        obtain ⟨cv,u1,u2,u3⟩:=c5 (off'+k) (row.map AV.ax) j (.ax y) (by rw [ub,q1];rfl) (by rw [ub,hj];rfl)
        rw [u1]
        cases u3 with
        | ax _ _ gh=>exact gh.mono hz (iD.refl _ _))
      rw [hlen] at this
      exact this
   ·exact hv.mono E
  | _=>exact hv.mono E
 have tr:∀ {x:AV} {v:Value},cI (VU id off len x)→RV C g (za st.heap) (· < st.next) w x v→RV C g' (za (Jq id af ks st.heap)) (· < st.next) w (Jp id af x) v:=by
  intro x v tK hv
  cases x with
  | agg cs=>
   simp only [Jp]
   cases hv with
   | agg _ vs hl h1 bZ=>
    refine .agg _ vs (by simpa using hl) h1 fun i y u e1 e2 => ?_
    rw [ub,uc] at e1
    obtain ⟨z,e1,rfl⟩:=e1
    exact leaf (tK.sub fun p hp=>um.2 ⟨z,uj e1,hp⟩) (bZ i z u e1 e2)
  | tuple cs=>
   simp only [Jp]
   cases hv with
   | tuple _ vs hl bZ=>
    refine .tuple _ vs (by simpa using hl) fun i y u e1 e2 => ?_
    rw [ub,uc] at e1
    obtain ⟨z,e1,rfl⟩:=e1
    exact leaf (tK.sub fun p hp=>um.2 ⟨z,uj e1,hp⟩) (bZ i z u e1 e2)
  | Zak i o n=>exact leaf (x:=.Zak i o n) tK hv
  | _=>exact hv.mono E
 refine ⟨g',⟨⟨RE.size,RE.defers.eO E,fun t x hx => ?_⟩,⟨fun i j b h1 h2=>R.inj i j b (hr i b h1).2 (hr j b h2).2,fun i b h1=>R.lt i b (hr i b h1).2,fun i o h1 => ?_,fun i b o h1 h2 => ?_,fun i s l h1 h2 => ?_,fun b hb => ?_,R.fix.eO E⟩⟩,fun g0 cK w0 hm E0=>E0.trans E⟩
 ·simp only at hx
  rw [VV,uc] at hx
  obtain ⟨y,h1,rfl⟩:=hx
  exact tr (AN.sub fun p hp=>ur.2 (.inl (GM h1 p hp))) (RE.slot t y h1)
 ·rcases hh i o h1 with ⟨h2,_⟩ | ⟨_,o0,h2,_⟩
  ·subst h2;exact R.key _ _ ho
  ·exact R.key i o0 h2
 ·obtain ⟨hne,h1⟩:=hr i b h1
  have pu:g'.Z b=g.Z b:=gL b fun e=>hne (R.inj _ _ b h1 e)
  rcases hh i o h2 with ⟨h3,_⟩ | ⟨_,o0,h3,h4 | ⟨hks,h4⟩⟩
  ·exact absurd h3 hne
  ·subst h4
   have hro:=R.obj i b _ h1 h3
   cases o with
   | af s r=>
    simp only [cC] at hro ⊢
    obtain ⟨a1,c,e,a2,a3,a4⟩:=hro
    refine ⟨by rw [pu];exact a1,c,e,a2,a3,fun k row j x u1 u2 => ?_⟩
    obtain ⟨cv,b1,b2,b3⟩:=a4 k row j x u1 u2
    exact ⟨cv,b1,b2,b3.mono E⟩
   | aV s l=>simp only [cC] at hro ⊢; rw [pu];exact hro
   | map es=>
    simp only [cC] at hro ⊢
    obtain ⟨a1,bO,clock,a2,a3,a4⟩:=hro
    refine ⟨by rw [pu];exact a1,bO,clock,a2,a3,fun k kk x u1 => ?_⟩
    obtain ⟨e,b1,b2,b3⟩:=a4 k kk x u1
    exact ⟨e,b1,b2,b3.mono E⟩
   | dead=>trivial
   | lp l R s pe=>simp only [cC] at hro ⊢; rw [pu];exact hro
  ·subst h4
   have hro:=R.obj i b _ h1 h3
   cases o0 with
   | af s r=>
    simp only [xN,cC] at hro ⊢
    obtain ⟨a1,c,e,a2,a3,a4⟩:=hro
    refine ⟨by rw [pu];exact a1,c,e,a2,fun k row u1 => ?_,fun k row j x u1 u2 => ?_⟩
    ·rw [ub,uc] at u1
     obtain ⟨z,u1,rfl⟩:=u1
     simpa using a3 k z u1
    ·rw [ub,uc] at u1
     obtain ⟨z,u1,rfl⟩:=u1
     rw [ub,uc] at u2
     obtain ⟨y,u2,rfl⟩:=u2
     obtain ⟨cv,b1,b2,b3⟩:=a4 k z j y u1 u2
     exact ⟨cv,b1,b2,tr (AN.sub fun p hp=>ur.2 (.inr (GN hks h3 p (by simp only [DI];exact um.2 ⟨z,uj u1,um.2 ⟨y,uj u2,hp⟩⟩)))) b3⟩
   | aV s l=>simp only [xN,cC] at hro ⊢; rw [pu];exact hro
   | map es=>
    simp only [xN,cC] at hro ⊢
    obtain ⟨a1,bO,clock,a2,a3,a4⟩:=hro
    refine ⟨by rw [pu];exact a1,bO,clock,a2,a3,fun k kk x u1 => ?_⟩
    obtain ⟨e,b1,b2,b3⟩:=a4 k kk x u1
    exact ⟨e,b1,b2,b3.mono E⟩
   | dead=>trivial
   | lp l R s pe=>simp only [xN,cC] at hro ⊢; rw [pu];exact hro
 ·rcases hh i _ h1 with ⟨_,h3⟩ | ⟨hne,o0,h3,h4 | ⟨_,h4⟩⟩
  ·cases h3
  ·subst h4;exact R.cQ i s l h3 (by rw [←hr' i hne];exact h2)
  ·cases o0<;>simp only [xN] at h4<;>cases h4
   exact R.cQ i s l h3 (by rw [←hr' i hne];exact h2)
 ·simp only [g'] at hb
  split at hb
  ·rename_i e;exact (R.lt id b e).1
  ·exact R.dX b hb
theorem GO {α:Type} (f:α→List IV) (l:List α):((ug f l).drop 0).take l.length=ug f l:=by
 rw [uA,uw (by simp)]
theorem OZ {α:Type} (f:α→List IV) (l:List α) (n:Nat):((ug f l).drop 0).take n=ug f (List.take n l):=by
 rw [uA,uK]
theorem Qa {α:Type} (f:α→List IV) (l:List α):(ug f l).map (fun r=>r.map AV.ax)=zc f l:=by
 simp only [zc,zj,uL];rfl
inductive mM:AV→AV→Prop where
 | refl (x:AV):mM x x
 | nil:mM .nil (.ax (.slice []))
 | aV (id:Nat) (af:List (List IV)):mM (.aU id af) (.ax (.slice af))
inductive ei:List AV→List AV→Prop where
 | nil:ei [] []
 | cons {x y:AV} {r s:List AV} (h:mM x y) (t:ei r s):ei (x::r) (y::s)
theorem ei.len {r s:List AV} (h:ei r s):r.length=s.length:=by
 induction h with
 | nil=>rfl
 | cons h t ih=>simp [ih]
theorem ei.get {r s:List AV} (h:ei r s):∀ (j:Nat) (y:AV),s[j]?=some y→∃ x,r[j]?=some x∧mM x y:=by
 induction h with
 | nil=>intro j y hj;simp at hj
 | cons h t ih=>
  intro j y hj
  cases j with
  | zero=>simp at hj;subst hj;exact ⟨_,by simp,h⟩
  | succ j=>simpa using ih j y (by simpa using hj)
theorem O0 {st:St} {α:Type} (id sz k:Nat) (row:List AV) (f:α→List IV) (z:α) (ho:za st.heap id=some (.af sz (ue k row))) (hle:ei row (zj (f z))):bS st ⟨st.env,zo st.heap id (.af sz (zc f (ue k z))),st.next⟩:=by
 intro C nt g a w R
 obtain ⟨RE,R⟩:=R
 have hlen:(zc f (ue k z)).length=(ue k row).length:=by simp [zc]
 have hh:∀ i o,za (zo st.heap id (.af sz (zc f (ue k z)))) i=some o→(i=id∧o=.af sz (zc f (ue k z)))∨(i≠id∧za st.heap i=some o):=fun i o h=>by
  rw [zp] at h
  split at h
  ·rename_i e;exact .inl ⟨e.symm,by cases h;rfl⟩
  ·rename_i e;exact .inr ⟨fun e2=>e e2.symm,h⟩
 have E:bW g (za st.heap) (· < st.next) w g (za (zo st.heap id (.af sz (zc f (ue k z))))) (· < st.next) w:={bW.refl g (za st.heap) (· < st.next) w with
  eb:=fun i b hb _ _ _ _=>.inl hb
  cE:=fun i hb _ _ _ _=>.inl hb
  af:=fun i _ s r h1=>by
   rcases hh i _ h1 with ⟨e1,e2⟩ | ⟨_,e2⟩
   ·subst e1;cases e2;exact ⟨_,ho,hlen.symm⟩
   ·exact ⟨r,e2,rfl⟩
  cR:=fun i _ s l h1=>by
   rcases hh i _ h1 with ⟨_,e2⟩ | ⟨_,e2⟩
   ·cases e2
   ·exact ⟨l,e2,uh _⟩
  maps:=fun i _ es h1=>by
   rcases hh i _ h1 with ⟨_,e2⟩ | ⟨_,e2⟩
   ·cases e2
   ·exact ⟨es,e2⟩
  fB:=fun i _ ll RR s pe h1=>by
   rcases hh i _ h1 with ⟨_,e2⟩ | ⟨_,e2⟩
   ·cases e2
   ·exact ⟨s,pe,e2⟩}
 refine ⟨g,⟨⟨RE.size,RE.defers,fun t x hx=>(RE.slot t x hx).mono E⟩,⟨R.inj,R.lt,fun i o h1 => ?_,fun i b o h1 h2 => ?_,fun i s l h1 h2 => ?_,R.dX,R.fix.eO E⟩⟩,fun g0 cK w0 hm E0=>E0.trans E⟩
 ·rcases hh i o h1 with ⟨e1,_⟩ | ⟨_,e2⟩
  ·subst e1;exact R.key _ _ ho
  ·exact R.key i o e2
 ·rcases hh i o h2 with ⟨e1,e2⟩ | ⟨_,e2⟩
  ·subst e1 e2
   have hro:=R.obj _ b _ h1 ho
   simp only [cC] at hro ⊢
   obtain ⟨a1,c,e,a2,a3,a4⟩:=hro
   have hrow:∀ (i:Nat) (r:List AV),(zc f (ue k z))[i]?=some r→(ue k row)[i]?=some row∧r=zj (f z):=fun i r hi=>by
    simp only [zc,List.map_replicate,List.getElem?_replicate] at hi ⊢
    split at hi
    ·rename_i hlt;rw [if_pos hlt];cases hi;exact ⟨rfl,rfl⟩
    ·cases hi
   refine ⟨a1,c,e,a2,fun i r hi => ?_,fun i r j x hi hj => ?_⟩
   ·obtain ⟨q1,q2⟩:=hrow i r hi
    rw [q2,←hle.len]
    exact a3 i row q1
   ·obtain ⟨q1,q2⟩:=hrow i r hi
    subst q2
    obtain ⟨y,q3,q4⟩:=hle.get j x hj
    obtain ⟨cv,b1,b2,b3⟩:=a4 i row j y q1 q3
    refine ⟨cv,b1,b2,?_⟩
    cases q4 with
    | refl=>exact b3.mono E
    | nil=>rw [xl b3];exact .ax _ _ .nil
    | aV=>cases b3 with | aU _ _ _ hr _ _=>exact .ax _ _ (hr.mono E.bY E.cell)
  ·exact (R.obj i b o h1 e2).keep E rfl rfl
 ·rcases hh i _ h1 with ⟨_,e2⟩ | ⟨_,e2⟩
  ·cases e2
  ·exact R.cQ i s l e2 h2
inductive dP:List (List AV)→List (List AV)→Prop where
 | nil:dP [] []
 | cons {r s:List AV} {l m:List (List AV)} (h:ei r s) (t:dP l m):dP (r::l) (s::m)
theorem dP.len {l m:List (List AV)} (h:dP l m):l.length=m.length:=by
 induction h with
 | nil=>rfl
 | cons h t ih=>simp [ih]
theorem dP.get {l m:List (List AV)} (h:dP l m):∀ (j:Nat) (s:List AV),m[j]?=some s→∃ r,l[j]?=some r∧ei r s:=by
 induction h with
 | nil=>intro j y hj;simp at hj
 | cons h t ih=>
  intro j y hj
  cases j with
  | zero=>simp at hj;subst hj;exact ⟨_,by simp,h⟩
  | succ j=>simpa using ih j y (by simpa using hj)
theorem GP {st:St} (id sz:Nat) (l m:List (List AV)) (ho:za st.heap id=some (.af sz l)) (hle:dP l m):bS st ⟨st.env,zo st.heap id (.af sz m),st.next⟩:=by
 intro C nt g a w R
 obtain ⟨RE,R⟩:=R
 have hh:∀ i o,za (zo st.heap id (.af sz m)) i=some o→(i=id∧o=.af sz m)∨(i≠id∧za st.heap i=some o):=fun i o h=>by
  rw [zp] at h
  split at h
  ·rename_i e;exact .inl ⟨e.symm,by cases h;rfl⟩
  ·rename_i e;exact .inr ⟨fun e2=>e e2.symm,h⟩
 have E:bW g (za st.heap) (· < st.next) w g (za (zo st.heap id (.af sz m))) (· < st.next) w:={bW.refl g (za st.heap) (· < st.next) w with
  eb:=fun i b hb _ _ _ _=>.inl hb
  cE:=fun i hb _ _ _ _=>.inl hb
  af:=fun i _ s r h1=>by
   rcases hh i _ h1 with ⟨e1,e2⟩ | ⟨_,e2⟩
   ·subst e1;cases e2;exact ⟨_,ho,hle.len⟩
   ·exact ⟨r,e2,rfl⟩
  cR:=fun i _ s l h1=>by
   rcases hh i _ h1 with ⟨_,e2⟩ | ⟨_,e2⟩
   ·cases e2
   ·exact ⟨l,e2,uh _⟩
  maps:=fun i _ es h1=>by
   rcases hh i _ h1 with ⟨_,e2⟩ | ⟨_,e2⟩
   ·cases e2
   ·exact ⟨es,e2⟩
  fB:=fun i _ ll RR s pe h1=>by
   rcases hh i _ h1 with ⟨_,e2⟩ | ⟨_,e2⟩
   ·cases e2
   ·exact ⟨s,pe,e2⟩}
 refine ⟨g,⟨⟨RE.size,RE.defers,fun t x hx=>(RE.slot t x hx).mono E⟩,⟨R.inj,R.lt,fun i o h1 => ?_,fun i b o h1 h2 => ?_,fun i s l h1 h2 => ?_,R.dX,R.fix.eO E⟩⟩,fun g0 cK w0 hm E0=>E0.trans E⟩
 ·rcases hh i o h1 with ⟨e1,_⟩ | ⟨_,e2⟩
  ·subst e1;exact R.key _ _ ho
  ·exact R.key i o e2
 ·rcases hh i o h2 with ⟨e1,e2⟩ | ⟨_,e2⟩
  ·subst e1 e2
   have hro:=R.obj _ b _ h1 ho
   simp only [cC] at hro ⊢
   obtain ⟨a1,c,e,a2,a3,a4⟩:=hro
   refine ⟨a1,c,e,a2,fun i r hi => ?_,fun i r j x hi hj => ?_⟩
   ·obtain ⟨q,q1,q2⟩:=hle.get i r hi
    rw [←q2.len];exact a3 i q q1
   ·obtain ⟨q,q1,q2⟩:=hle.get i r hi
    obtain ⟨y,q3,q4⟩:=q2.get j x hj
    obtain ⟨cv,b1,b2,b3⟩:=a4 i q j y q1 q3
    refine ⟨cv,b1,b2,?_⟩
    cases q4 with
    | refl=>exact b3.mono E
    | nil=>rw [xl b3];exact .ax _ _ .nil
    | aV=>cases b3 with | aU _ _ _ hr _ _=>exact .ax _ _ (hr.mono E.bY E.cell)
  ·exact (R.obj i b o h1 e2).keep E rfl rfl
 ·rcases hh i _ h1 with ⟨_,e2⟩ | ⟨_,e2⟩
  ·cases e2
  ·exact R.cQ i s l e2 h2
open Classical in
noncomputable def lim {α:Type} (f:Nat→Option α):Option α:=if h:∃ r,∃ k,∀ k',k≤k'→f k'=some r then some h.choose else none
theorem O1 {α:Type} {f:Nat→Option α} {r:α} (h:lim f=some r):∃ k,f k=some r:=by
 unfold lim at h
 split at h
 ·rename_i hh
  cases h
  obtain ⟨k,hk⟩:=hh.choose_spec
  exact ⟨k,hk k (uh _)⟩
 ·cases h
theorem O3 {α:Type} {f:Nat→Option α} {r:α} (k:Nat) (h:∀ k',k≤k'→f k'=some r):lim f=some r:=by
 unfold lim
 have hh:∃ r,∃ k,∀ k',k≤k'→f k'=some r:=⟨r,k,h⟩
 rw [dif_pos hh]
 obtain ⟨k2,hk2⟩:=hh.choose_spec
 have h1:=hk2 (max k k2) (Nat.le_max_right _ _)
 have h2:=h (max k k2) (Nat.le_max_left _ _)
 rw [h1] at h2;exact h2
section
variable {h:Nat→Option aG} {d:Nat}
theorem jb:aM (zE h d) []=some []:=rfl
theorem zB {x:AV} {y:IV} {xs:List AV} {ys:List IV} (h1:zE h d x=some y) (h2:aM (zE h d) xs=some ys):aM (zE h d) (x::xs)=some (y::ys):=by
 simp only [aM];rw [h1];simp only;rw [h2]
theorem qD (y:IV):zE h (d+1) (.ax y)=some y:=rfl
theorem O5 (i:Nat) (af:List (List IV)):zE h (d+1) (.aU i af)=some (.slice af):=rfl
theorem kW {cs:List AV} {ys:List IV} (h1:aM (zE h d) cs=some ys):zE h (d+1) (.agg cs)=some (.agg ys):=by
 simp only [zE];rw [h1];rfl
theorem DJ {cs:List AV} {ys:List IV} (h1:aM (zE h d) cs=some ys):zE h (d+1) (.tuple cs)=some (.tuple ys):=by
 simp only [zE];rw [h1];rfl
theorem kb {α:Type} (f:α→List IV) (id sz:Nat) (l:List α) (ho:h id=some (.af sz (zc f l))):zE h (d+2) (.Zak id 0 l.length)=some (.slice (ug f l)):=GG f h d id sz l ho
end
inductive pz:AV→AV→Prop where
 | refl (x:AV):pz x x
 | nil:pz .nil (.ax (.slice []))
 | aV (id:Nat) (af:List (List IV)):pz (.aU id af) (.ax (.slice af))
 | agg {r s:List AV} (h:ei r s):pz (.agg r) (.agg s)
 | tuple {r s:List AV} (h:ei r s):pz (.tuple r) (.tuple s)
theorem mM.rv {C:Ctx} {g:Gh} {h:Nat→Option aG} {N:Nat→Prop} {w:World} {x y:AV} {v:Value} (hl:mM x y) (hv:RV C g h N w x v):RV C g h N w y v:=by
 cases hl with
 | refl=>exact hv
 | nil=>rw [xl hv];exact .ax _ _ .nil
 | aV=>cases hv with | aU _ _ _ hr _ _=>exact .ax _ _ hr
theorem pz.rv {C:Ctx} {g:Gh} {h:Nat→Option aG} {N:Nat→Prop} {w:World} {x y:AV} {v:Value} (hl:pz x y) (hv:RV C g h N w x v):RV C g h N w y v:=by
 cases hl with
 | refl=>exact hv
 | nil=>rw [xl hv];exact .ax _ _ .nil
 | aV=>cases hv with | aU _ _ _ hr _ _=>exact .ax _ _ hr
 | agg hr=>
  cases hv with
  | agg _ vs h1 h2 h3=>
   refine .agg _ vs (by rw [←hr.len];exact h1) h2 fun i c u e1 e2 => ?_
   obtain ⟨q,q1,q2⟩:=hr.get i c e1
   exact q2.rv (h3 i q u q1 e2)
 | tuple hr=>
  cases hv with
  | tuple _ vs h1 h3=>
   refine .tuple _ vs (by rw [←hr.len];exact h1) fun i c u e1 e2 => ?_
   obtain ⟨q,q1,q2⟩:=hr.get i c e1
   exact q2.rv (h3 i q u q1 e2)
inductive lS:List AV→List AV→Prop where
 | nil:lS [] []
 | cons {x y:AV} {r s:List AV} (h:pz x y) (t:lS r s):lS (x::r) (y::s)
theorem lS.len {l m:List AV} (h:lS l m):l.length=m.length:=by
 induction h with
 | nil=>rfl
 | cons h t ih=>simp [ih]
theorem lS.get {l m:List AV} (h:lS l m):∀ (j:Nat) (s:AV),m[j]?=some s→∃ r,l[j]?=some r∧pz r s:=by
 induction h with
 | nil=>intro j y hj;simp at hj
 | cons h t ih=>
  intro j y hj
  cases j with
  | zero=>simp at hj;subst hj;exact ⟨_,by simp,h⟩
  | succ j=>simpa using ih j y (by simpa using hj)
inductive nJ:AV→AV→Prop where
 | one {x y:AV} (h:pz x y):nJ x y
 | O6 {r s:List AV} (h:lS r s):nJ (.tuple r) (.tuple s)
theorem nJ.rv {C:Ctx} {g:Gh} {h:Nat→Option aG} {N:Nat→Prop} {w:World} {x y:AV} {v:Value} (hl:nJ x y) (hv:RV C g h N w x v):RV C g h N w y v:=by
 cases hl with
 | one h=>exact h.rv hv
 | O6 hr=>
  cases hv with
  | tuple _ vs h1 h3=>
   refine .tuple _ vs (by rw [←hr.len];exact h1) fun i c u e1 e2 => ?_
   obtain ⟨q,q1,q2⟩:=hr.get i c e1
   exact q2.rv (h3 i q u q1 e2)
theorem O7 {x y:AV} {heap:List (Nat×aG)} {n:Nat} (hl:nJ x y):bS ⟨[(0,x)],heap,n⟩ ⟨[(0,y)],heap,n⟩:=by
 intro C nt g a w R
 refine ⟨g,⟨⟨R.env.size,R.env.defers,fun t z hz => ?_⟩,R.heap⟩,fun _ _ _ _ E=>E⟩
 simp only [za] at hz
 split at hz
 ·rename_i e;subst e;cases hz;exact hl.rv (R.env.slot 0 x rfl)
 ·cases hz
theorem bS.andThen {s1 s2 s3:St} (h1:bS s1 s2) (h2:bS s2 s3) (hn:s3.next≤s2.next):bS s1 s3:=by
 intro C nt g a w R
 obtain ⟨g1,R1,e1⟩:=h1 C nt g a w R
 obtain ⟨g2,R2,e2⟩:=h2 C nt g1 a w R1
 exact ⟨g2,R2,fun g0 cK w0 a1 E=>e2 g0 cK w0 a1 (e1 g0 cK w0 (ux a1 hn) E)⟩
theorem xE {h:Nat→Option aG} {d:Nat} {α:Type} (f:α→List IV) (id sz n:Nat) (l:List α) (hn:n=l.length) (ho:h id=some (.af sz (zc f l))):zE h (d+2) (.Zak id 0 n)=some (.slice (ug f l)):=by
 subst hn;exact GG f h d id sz l ho
theorem K0 {st:St} (id sz sz':Nat) (af:List (List AV)) (r j:Nat) (row:List AV) (ho:za st.heap id=some (.af sz af)) (hr:af[r]?=some row) (hj:row[j]?=some .nil) :
  bS st ⟨st.env,zo (zy st.heap st.next (.aV sz' 0)) id (.af sz (af.set r (row.set j (.aU st.next [])))),st.next+1⟩:=by
 intro C nt g a w R
 have DK:id < st.next:=R.heap.key _ _ ho
 obtain ⟨g',E,H,hv⟩:=J6 (id:=st.next) R.heap (un _) sz'
 rw [xm] at E H hv
 have e1:bz [(st.next,aG.aV sz' 0)] (za st.heap)=za (zy st.heap st.next (.aV sz' 0)):=by
  funext i;simp only [bz,zA]
 rw [e1] at E H hv
 have ho':za (zy st.heap st.next (.aV sz' 0)) id=some (.af sz af):=by rw [zA,if_neg (by omega)];exact ho
 have hh:∀ i o,za (zo (zy st.heap st.next (.aV sz' 0)) id (.af sz (af.set r (row.set j (.aU st.next []))))) i=some o→(i=id∧o=.af sz (af.set r (row.set j (.aU st.next []))))∨(i≠id∧za (zy st.heap st.next (.aV sz' 0)) i=some o):=fun i o h=>by
  rw [zp] at h
  split at h
  ·rename_i e;exact .inl ⟨e.symm,by cases h;rfl⟩
  ·rename_i e;exact .inr ⟨fun e2=>e e2.symm,h⟩
 have E2:bW g' (za (zy st.heap st.next (.aV sz' 0))) (· < st.next+1) w g' (za (zo (zy st.heap st.next (.aV sz' 0)) id (.af sz (af.set r (row.set j (.aU st.next [])))))) (· < st.next+1) w:={bW.refl g' (za (zy st.heap st.next (.aV sz' 0))) (· < st.next+1) w with
  eb:=fun i b hb _ _ _ _=>.inl hb
  cE:=fun i hb _ _ _ _=>.inl hb
  af:=fun i _ s q h1=>by
   rcases hh i _ h1 with ⟨e1,e2⟩ | ⟨_,e2⟩
   ·subst e1;cases e2;exact ⟨_,ho',by simp⟩
   ·exact ⟨q,e2,rfl⟩
  cR:=fun i _ s l h1=>by
   rcases hh i _ h1 with ⟨_,e2⟩ | ⟨_,e2⟩
   ·cases e2
   ·exact ⟨l,e2,uh _⟩
  maps:=fun i _ es h1=>by
   rcases hh i _ h1 with ⟨_,e2⟩ | ⟨_,e2⟩
   ·cases e2
   ·exact ⟨es,e2⟩
  fB:=fun i _ ll RR s pe h1=>by
   rcases hh i _ h1 with ⟨_,e2⟩ | ⟨_,e2⟩
   ·cases e2
   ·exact ⟨s,pe,e2⟩}
 refine ⟨g',⟨⟨R.env.size,(R.env.defers.eO E).eO E2,fun t x hx=>((R.env.slot t x hx).mono E).mono E2⟩,⟨H.inj,H.lt,fun i o h1 => ?_,fun i b o h1 h2 => ?_,fun i s l h1 h2 => ?_,H.dX,H.fix.eO E2⟩⟩,fun g0 cK w0 hm E0=>bW.trans (bW.trans E0 E) E2⟩
 ·rcases hh i o h1 with ⟨e1,_⟩ | ⟨_,e2⟩
  ·subst e1;exact H.key _ _ ho'
  ·exact H.key i o e2
 ·rcases hh i o h2 with ⟨e1,e2⟩ | ⟨_,e2⟩
  ·subst e1 e2
   have hro:=H.obj _ b _ h1 ho'
   simp only [cC] at hro ⊢
   obtain ⟨a1,c,e,a2,a3,a4⟩:=hro
   have hrl:r < af.length:=(ua.1 hr).1
   have hjl:j < row.length:=(ua.1 hj).1
   refine ⟨a1,c,e,a2,fun i q hi => ?_,fun i q k x hi hk => ?_⟩
   ·rw [uk] at hi
    split at hi
    ·rename_i e3;subst e3;cases hi;simpa using a3 _ row hr
    ·exact a3 i q hi
   ·rw [uk] at hi
    split at hi
    ·rename_i e3
     subst e3
     cases hi
     rw [uk] at hk
     split at hk
     ·rename_i e4
      subst e4
      cases hk
      obtain ⟨cv,b1,b2,b3⟩:=a4 _ row _ .nil hr hj
      refine ⟨cv,b1,b2,?_⟩
      rw [xl b3]
      exact hv.mono E2
     ·obtain ⟨cv,b1,b2,b3⟩:=a4 _ row k x hr hk
      exact ⟨cv,b1,b2,b3.mono E2⟩
    ·obtain ⟨cv,b1,b2,b3⟩:=a4 i q k x hi hk
     exact ⟨cv,b1,b2,b3.mono E2⟩
  ·exact (H.obj i b o h1 e2).keep E2 rfl rfl
 ·rcases hh i _ h1 with ⟨_,e2⟩ | ⟨_,e2⟩
  ·cases e2
  ·exact H.cQ i s l e2 h2
end
def O8 {σ ρ γ:Type} (Ok:σ→γ→Prop) (W:σ→γ→St) (K:Exit→St→Prop) (out:σ ⊕ ρ) (o:σ ⊕ ρ):Exit→St→Prop
 | .normal,st=>∃ s' c',o=.inl s'∧Ok s' c'∧bS st (W s' c')
 | e,st=>∃ y,o=.inr y∧(out=.inr y→K e st)
theorem O9 {C:bB} {nt:Fr} {x:cy} {K:Exit→St→Prop} {st:St} {σ ρ γ:Type} {n:Int} {f:Nat→σ→Option (σ ⊕ ρ)} {s0:σ} {out:σ ⊕ ρ} (hl:aH n f s0=some out)
  (Ok:Nat→σ→γ→Prop) (S:Nat→σ→γ→St) (hmin:∀ i s c,Ok i s c→st.next≤(S i s c).next) (c0:γ) (sD:Ok 0 s0 c0) (hn0:(S 0 s0 c0).next=st.next) (h0:bS st (S 0 s0 c0))
  (body:∀ (i:Nat) (s:σ) (c:γ) (o:σ ⊕ ρ),Ok i s c→(i:Int) < n→IntKind.i64.wrap ((i:Int)+1)=(i:Int)+1→f i s=some o→cG C nt x (O8 (Ok (i+1)) (S (i+1)) K out o) (S i s c))
  (last:∀ (m:Nat) (s:σ) (c:γ),Ok m s c→¬ (m:Int) < n→out=.inl s→cG C nt x (vR (fun _=>False) K) (S m s c)):cG C nt (.loop x) K st:=by
 obtain ⟨hn,hl⟩:=Xj hl
 refine WR (ι:={p:Nat×σ×γ // p.1≤n.toNat∧bE f p.1 (n.toNat - p.1) p.2.1=some out∧Ok p.1 p.2.1 p.2.2}) (fun p=>S p.1.1 p.1.2.1 p.1.2.2) (fun p=>n.toNat - p.1.1) ⟨(0,s0,c0),uH _,hl,sD⟩ (fun p=>by rw [hn0];exact hmin _ _ _ p.2.2.2) h0 (Nat.le_of_eq hn0.symm) ?_
 rintro ⟨⟨i,s,c⟩,hi,hf,hok⟩
 simp only at hi hf hok
 rcases Nat.lt_or_ge i n.toNat with h | h
 ·obtain ⟨k,hk⟩:∃ k,n.toNat - i=k+1:=⟨n.toNat - i - 1,by omega⟩
  rw [hk] at hf
  simp only [bE] at hf
  split at hf
  ·cases hf
  ·rename_i r hr
   cases hf
   refine qY ?_ (body i s c _ hok (by omega) (qz (by omega) (by omega)) hr)
   intro e aY hK
   cases e with
   | normal=>obtain ⟨s',_,h1,_⟩:=hK;cases h1
   | _=>obtain ⟨y,h1,h2⟩:=hK;cases h1;exact h2 rfl
  ·rename_i s' hr
   refine qY ?_ (body i s c _ hok (by omega) (qz (by omega) (by omega)) hr)
   intro e aY hK
   cases e with
   | normal=>
    obtain ⟨s'',c'',h1,h2,h3⟩:=hK
    cases h1
    exact ⟨⟨(i+1,s',c''),h,by simp only;rw [show n.toNat - (i+1)=k by omega];exact hf,h2⟩,by simp only;omega,h3⟩
   | _=>obtain ⟨y,h1,h2⟩:=hK;cases h1
 ·obtain rfl:i=n.toNat:=by omega
  simp only [Nat.sub_self,bE,Option.some.injEq] at hf
  refine qY ?_ (last n.toNat s c hok (by omega) hf.symm)
  intro e aY hK
  cases e with
  | normal=>exact hK.elim
  | _=>exact hK
def qe (qs:List Nat) (Ls:List (List Int)):List (List AV):=List.zipWith (fun q L=>[AV.aU q (L.map zb)]) qs Ls
structure dc (heap:List (Nat×aG)) (N P:Nat) (qs:List Nat) (Ls:List (List Int)):Prop where
 obj:za heap P=some (.af 1 (qe qs Ls))
 aV:∀ (k q:Nat) (L:List Int),qs[k]?=some q→Ls[k]?=some L→za heap q=some (.aV 1 L.length)
 len:qs.length=Ls.length
 nd:∀ (i j q:Nat),qs[i]?=some q→qs[j]?=some q→i=j
theorem WA {qs:List Nat} {Ls:List (List Int)} (h:qs.length=Ls.length):(qe qs Ls).length=Ls.length:=by simp [qe,h]
theorem VW:∀ (qs:List Nat) (Ls:List (List Int)),qs.length=Ls.length→dP (qe qs Ls) (zc (zM zb) Ls)
 | [],[],_=>.nil
 | q::qs,L::Ls,h=>.cons (.cons (.aV q (L.map zb)) .nil) (VW qs Ls (by simpa using h))
theorem WB {qs:List Nat} {Ls:List (List Int)} {k q:Nat} {L:List Int} (h1:qs[k]?=some q) (h2:Ls[k]?=some L):(qe qs Ls)[k]?=some [.aU q (L.map zb)]:=by
 simp [qe,List.getElem?_zipWith,h1,h2]
theorem WC:∀ (qs:List Nat) (Ls:List (List Int)) (k q:Nat) (L:List Int),qs[k]?=some q→(qe qs Ls).set k [.aU q (L.map zb)]=qe qs (Ls.set k L)
 | [],Ls,k,q,L,h=>by simp at h
 | q'::qs,[],k,q,L,h=>by simp [qe]
 | q'::qs,L'::Ls,0,q,L,h=>by simp at h;subst h;rfl
 | q'::qs,L'::Ls,k+1,q,L,h=>by
  have:=WC qs Ls k q L (by simpa using h)
  simp only [qe,List.zipWith_cons_cons,List.set_cons_succ] at this ⊢
  rw [this]
theorem Pa (qs:List Nat) (Ls:List (List Int)) (q:Nat) (L:List Int) (h:qs.length=Ls.length):qe (qs++[q]) (Ls++[L])=qe qs Ls++[[.aU q (L.map zb)]]:=by
 simp [qe,List.zipWith_append h]
theorem dc.grow {heap heap':List (Nat×aG)} {N N' P:Nat} {qs:List Nat} {Ls:List (List Int)} (h:dc heap N P qs Ls) {k q:Nat} {L:List Int} (hq:qs[k]?=some q) (hP:za heap' P=some (.af 1 (qe qs (Ls.set k L)))) (hT:za heap' q=some (.aV 1 L.length))
  (hE:∀ j,j≠P→j≠q→(za heap j).isSome=true→za heap' j=za heap j):dc heap' N' P qs (Ls.set k L) where
 obj:=hP
 len:=by simp [h.len]
 nd:=h.nd
 aV:=fun k' q' L' h1 h2=>by
  by_cases e:k'=k
  ·subst e
   have hlt:k' < Ls.length:=by
    have:=(ua.1 h1).1;rw [h.len] at this;exact this
   rw [List.getElem?_set_self hlt] at h2
   cases h2
   rw [hq] at h1;cases h1
   exact hT
  ·rw [List.getElem?_set_ne (Ne.symm e)] at h2
   have h3:=h.aV k' q' L' h1 h2
   rw [hE q' (fun e2=>by rw [e2,h.obj] at h3;cases h3) (fun e2=>e (h.nd k' k q (by rw [←e2];exact h1) hq)) (by rw [h3];rfl)]
   exact h3
section
section
variable {C:Ctx} {g g':Gh} {h h':Nat→Option aG} {N N':Nat→Prop} {w w':World} {id:Nat}
theorem Pb (R:RH C g h N w) (hid:¬ N id) {i sz:Nat} {all:List (List IV)} (hi:h i=some (.af sz (all.map fun r=>r.map AV.ax))) {v0:Value} (gl:RV C g h N w (.Zak i 0 all.length) v0) :
  ∃ g',(∀ k,k≠id→k≠i→g'.ρ k=g.ρ k)∧(∀ b,g.Z b=0→g.ρ i≠some b→g'.Z b=0)∧bW g h N w g' (bz [(i,.dead),(id,.aV sz all.length)] h) (qh N id) w∧RH C g' (bz [(i,.dead),(id,.aV sz all.length)] h) (qh N id) w∧RV C g' (bz [(i,.dead),(id,.aV sz all.length)] h) (qh N id) w (.aU id all) v0:=by
 have hN:=R.key i _ hi
 have hne:i≠id:=fun e=>hid (e ▸ hN)
 have mC:∀ k,N k→k≠id:=fun k hk e=>hid (e ▸ hk)
 let g':Gh:=⟨fun k=>if k=id then g.ρ i else if k=i then none else g.ρ k,fun b=>if g.ρ i=some b then all.length*sz else g.Z b⟩
 have gG:∀ b,g.ρ i=some b→g.Z b=0:=fun b hb=>(R.obj i b _ hb hi).1
 have GQ:∀ b,g.Z b≤g'.Z b:=fun b=>by
  simp only [g'];split
  ·rename_i e;rw [gG b e];exact uH _
  ·exact uh _
 have gL:∀ b,g.ρ i≠some b→g'.Z b=g.Z b:=fun b hb=>by simp only [g',if_neg hb]
 have gu:∀ k o,bz [(i,aG.dead),(id,aG.aV sz all.length)] h k=some o→(k=i∧o=.dead)∨(k=id∧o=.aV sz all.length)∨(k≠i∧k≠id∧h k=some o):=fun k o ho=>by
  simp only [bz] at ho
  split at ho
  ·rename_i e;cases ho;exact .inl ⟨e.symm,rfl⟩
  ·rename_i e
   split at ho
   ·rename_i e2;cases ho;exact .inr (.inl ⟨e2.symm,rfl⟩)
   ·rename_i e2;exact .inr (.inr ⟨fun e3=>e e3.symm,fun e3=>e2 e3.symm,ho⟩)
 have dV:∀ k,k≠id→k≠i→g'.ρ k=g.ρ k:=fun k h1 h2=>by simp only [g',if_neg h1,if_neg h2]
 have pQ:g'.ρ id=g.ρ i:=by simp only [g',if_pos]
 have gh:g'.ρ i=none:=by simp only [g',if_neg hne,if_pos]
 have lT:∀ k b,g'.ρ k=some b→(k=id∧g.ρ i=some b)∨(k≠id∧k≠i∧g.ρ k=some b):=fun k b hk=>by
  by_cases h1:k=id
  ·subst h1;rw [pQ] at hk;exact .inl ⟨rfl,hk⟩
  ·by_cases h2:k=i
   ·subst h2;rw [gh] at hk;cases hk
   ·rw [dV k h1 h2] at hk;exact .inr ⟨h1,h2,hk⟩
 have E:bW g h N w g' (bz [(i,.dead),(id,.aV sz all.length)] h) (qh N id) w:={
  os:=rfl
  tape:=rfl
  output:=rfl
  size:=uh _
  old:=fun b _ hno=>⟨rfl,gL b fun e=>hno ⟨i,e⟩⟩
  own:=fun b ⟨k,hk⟩=>by
   rcases lT k b hk with ⟨_,h1⟩ | ⟨_,_,h1⟩
   ·exact .inl ⟨i,h1⟩
   ·exact .inl ⟨k,h1⟩
  bY:=GQ
  cell:=iD.refl _ _
  shape:=fun b c e hb=>⟨c,hb,rfl⟩
  next:=fun _ hk=>.inl hk
  eb:=fun k b hb o ho hnd hk=>by
   rcases gu k o ho with ⟨_,h2⟩ | ⟨h2,_⟩ | ⟨h1,h2,_⟩
   ·exact absurd h2 hnd
   ·exact absurd h2 (mC k hk)
   ·exact .inl (by rw [dV k h2 h1];exact hb)
  cE:=fun k hb hk o ho hnd=>by
   rcases gu k o ho with ⟨_,h2⟩ | ⟨h2,_⟩ | ⟨h1,h2,_⟩
   ·exact absurd h2 hnd
   ·exact absurd h2 (mC k hk)
   ·exact .inl (by rw [dV k h2 h1];exact hb)
  af:=fun k hk s r ho=>by
   rcases gu k _ ho with ⟨_,h2⟩ | ⟨_,h2⟩ | ⟨_,_,h2⟩
   ·cases h2
   ·cases h2
   ·exact ⟨r,h2,rfl⟩
  cR:=fun k hk s l ho=>by
   rcases gu k _ ho with ⟨_,h2⟩ | ⟨h2,_⟩ | ⟨_,_,h2⟩
   ·cases h2
   ·exact absurd h2 (mC k hk)
   ·exact ⟨l,h2,uh _⟩
  maps:=fun k hk es ho=>by
   rcases gu k _ ho with ⟨_,h2⟩ | ⟨_,h2⟩ | ⟨_,_,h2⟩
   ·cases h2
   ·cases h2
   ·exact ⟨es,h2⟩
  fB:=fun k hk ll RR s pe ho=>by
   rcases gu k _ ho with ⟨_,h2⟩ | ⟨_,h2⟩ | ⟨_,_,h2⟩
   ·cases h2
   ·cases h2
   ·exact ⟨s,pe,h2⟩}
 have hval:(g.ρ i=none∧all=[]∧v0=.slice none 0 0)∨∃ b cap c e,g.ρ i=some b∧v0=.slice (some ⟨b,0,none⟩) all.length cap∧all.length≤cap∧w.heap[b]?=some (.cells c e (0,0))∧cap*sz≤c.size ∧
   (∀ row∈all,row.length=sz)∧∀ (k:Nat) (row:List IV) (j:Nat) (y:IV),all[k]?=some row→row[j]?=some y→∃ cv,c[k*sz+j]?=some cv∧cv.oneCell'=true∧RI g.Z w y cv:=by
  cases gl with
  | Zak _ _ _ _ _ _ hp=>
   obtain ⟨_,h2⟩:=hp sz _ hi
   rcases h2 with ⟨a1,a2,a3⟩ | ⟨b,cap,c,e,b1,b2,b3,b4,b5⟩
   ·exact .inl ⟨a1,by simpa using a2,a3⟩
   ·have mD:=R.obj i b _ b1 hi
    obtain ⟨z0,c2,e2,c3,c4,c5⟩:=mD
    rw [b4] at c3
    cases c3
    refine .inr ⟨b,cap,c,e,b1,by simpa using b2,b3,b4,by simpa using b5,fun row hr => ?_,fun k row j y hk hj => ?_⟩
    ·obtain ⟨k,hk⟩:=List.getElem?_of_mem hr
     have:=c4 k (row.map AV.ax) (by rw [ub,hk];rfl)
     simpa using this
    ·obtain ⟨cv,u1,u2,u3⟩:=c5 k (row.map AV.ax) j (.ax y) (by rw [ub,hk];rfl) (by rw [ub,hj];rfl)
     cases u3 with
     | ax _ _ gh=>exact ⟨cv,u1,u2,gh⟩
 refine ⟨g',dV,fun b h1 h2=>by rw [gL b h2];exact h1,E,⟨fun k l b hk hl => ?_,fun k b hk => ?_,fun k o ho => ?_,fun k b o hk ho => ?_,fun k s l ho hn => ?_,fun b hb => ?_,R.fix.eO E⟩,?_⟩
 ·rcases lT k b hk with ⟨h1,h2⟩ | ⟨h1,h2,h3⟩<;>rcases lT l b hl with ⟨h4,h5⟩ | ⟨h4,h5,h6⟩
  ·rw [h1,h4]
  ·exact absurd (R.inj _ _ b h6 h2) h5
  ·exact absurd (R.inj _ _ b h3 h5) h2
  ·exact R.inj _ _ b h3 h6
 ·rcases lT k b hk with ⟨h1,h2⟩ | ⟨h1,h2,h3⟩
  ·exact ⟨(R.lt i b h2).1,.inr h1⟩
  ·exact ⟨(R.lt k b h3).1,.inl (R.lt k b h3).2⟩
 ·rcases gu k o ho with ⟨h1,_⟩ | ⟨h1,_⟩ | ⟨_,_,h1⟩
  ·exact .inl (h1 ▸ hN)
  ·exact .inr h1
  ·exact .inl (R.key k o h1)
 ·rcases lT k b hk with ⟨h1,h2⟩ | ⟨h1,h2,h3⟩
  ·rcases gu k o ho with ⟨h4,_⟩ | ⟨_,h4⟩ | ⟨_,h4,_⟩
   ·exact absurd (h4.symm.trans h1) hne
   ·subst h4
    rcases hval with ⟨a1,_⟩ | ⟨b',cap,c,e,b1,b2,b3,b4,b5,b6,_⟩
    ·rw [a1] at h2;cases h2
    ·rw [b1] at h2;cases h2
     refine ⟨c,e,b4,by simp only [g',if_pos b1],ux (uo _ b3) b5⟩
   ·exact absurd h1 h4
  ·rcases gu k o ho with ⟨h4,_⟩ | ⟨h4,_⟩ | ⟨_,_,h4⟩
   ·exact absurd h4 h2
   ·exact absurd h4 h1
   ·exact (R.obj k b o h3 h4).keep E rfl (gL b fun e=>h2 (R.inj _ _ b h3 e))
 ·rcases gu k _ ho with ⟨_,h1⟩ | ⟨h1,h2⟩ | ⟨h1,h2,h3⟩
  ·cases h1
  ·cases h2
   rw [h1,pQ] at hn
   rcases hval with ⟨_,a2,_⟩ | ⟨b,_,_,_,b1,_⟩
   ·rw [a2];rfl
   ·rw [b1] at hn;cases hn
  ·exact R.cQ k s l h3 (by rw [←dV k h2 h1];exact hn)
 ·by_cases e:g.ρ i=some b
  ·exact (R.lt i b e).1
  ·rw [gL b e] at hb;exact R.dX b hb
 ·rcases hval with ⟨a1,a2,a3⟩ | ⟨b,cap,c,e,b1,b2,b3,b4,b5,b6,b7⟩
  ·subst a2 a3
   refine .aU id [] _ .nil (.inr rfl) fun s l hs => ?_
   rcases gu id _ hs with ⟨_,h1⟩ | ⟨_,h1⟩ | ⟨_,h1,_⟩
   ·cases h1
   ·cases h1
    exact ⟨uh _,fun k row hk=>by simp at hk,fun _=>.inl ⟨by rw [pQ];exact a1,rfl⟩⟩
   ·exact absurd rfl h1
  ·subst b2
   have pu:g'.Z b=all.length*sz:=by simp only [g',if_pos b1]
   have tL:∀ (k:Nat) (row:List IV),all[k]?=some row→row.length=sz:=fun k row hk=>b6 row (uj hk)
   refine .aU id all _ ?_ (.inr rfl) fun s l hs => ?_
   ·refine .slice all b 0 cap sz (fun k j=>(c[k*sz+j]?).getD default) b3 tL (fun k row j y hk hj => ?_) (fun k row j y hk hj => ?_) (fun k row j y hk hj => ?_)
    ·have h1:=tL k row hk
     have h2:j < row.length:=(ua.1 hj).1
     have h3:k < all.length:=(ua.1 hk).1
     have h4:(k+1)*sz≤all.length*sz:=uo _ h3
     rw [uB] at h4
     rw [pu];omega
    ·obtain ⟨cv,u1,u2,u3⟩:=b7 k row j y hk hj
     rw [uv,qB b4,u1]
     exact ⟨rfl,u2⟩
    ·obtain ⟨cv,u1,u2,u3⟩:=b7 k row j y hk hj
     rw [u1]
     exact u3.mono GQ (iD.refl _ _)
   ·rcases gu id _ hs with ⟨_,h1⟩ | ⟨_,h1⟩ | ⟨_,h1,_⟩
    ·cases h1
    ·cases h1
     exact ⟨uh _,tL,fun _=>.inr ⟨b,cap,c,e,by rw [pQ];exact b1,rfl,b4,b5⟩⟩
    ·exact absurd rfl h1
end
theorem Pc {st:St} (t a0 b0 id sz i sz':Nat) (af:List (List AV)) (r j:Nat) (row:List AV) (all:List (List IV)) (ht:za st.env t=some (.ptr id a0 b0)) (ho:za st.heap id=some (.af sz af)) (hr:af[r]?=some row) (hj:row[j]?=some (.Zak i 0 all.length))
  (hi:za st.heap i=some (.af sz' (all.map fun r=>r.map AV.ax))) (hne:i≠id) :
  bS st ⟨st.env,zo (zo (zy st.heap st.next (.aV sz' all.length)) i .dead) id (.af sz (af.set r (row.set j (.aU st.next all)))),st.next+1⟩:=by
 intro C nt g a w R
 have DK:id < st.next:=R.heap.key _ _ ho
 have hin:i < st.next:=R.heap.key _ _ hi
 obtain ⟨bo,BV,_⟩:∃ b,g.ρ id=some b∧True:=by
  have:=R.env.slot t _ ht
  cases this with
  | ptr _ _ _ _ _ _ hp=>obtain ⟨b,hb,_⟩:=hp _ _ ho;exact ⟨b,hb,trivial⟩
 obtain ⟨z0,c0,e0,k1,k2,k3⟩:=R.heap.obj id bo _ BV ho
 obtain ⟨Pd,q1,q2,q3⟩:=k3 r row j _ hr hj
 obtain ⟨g',dV,tA,E,H,hv⟩:=Pb (id:=st.next) R.heap (un _) hi q3
 rw [xm] at E H hv
 have e1:bz [(i,aG.dead),(st.next,aG.aV sz' all.length)] (za st.heap)=za (zo (zy st.heap st.next (.aV sz' all.length)) i .dead):=by
  funext k;simp only [bz,zp,zA]
 rw [e1] at E H hv
 obtain ⟨hp1,AO⟩:∃ hp,hp=zo (zy st.heap st.next (.aV sz' all.length)) i .dead:=⟨_,rfl⟩
 rw [←AO] at E H hv ⊢
 have AP:g'.ρ id=g.ρ id:=dV id (by omega) (fun e=>hne e.symm)
 have ho':za hp1 id=some (.af sz af):=by rw [AO,zp,if_neg hne,zA,if_neg (by omega)];exact ho
 have hh:∀ k o,za (zo hp1 id (.af sz (af.set r (row.set j (.aU st.next all))))) k=some o→(k=id∧o=.af sz (af.set r (row.set j (.aU st.next all))))∨(k≠id∧za hp1 k=some o):=fun k o h=>by
  rw [zp] at h
  split at h
  ·rename_i e;exact .inl ⟨e.symm,by cases h;rfl⟩
  ·rename_i e;exact .inr ⟨fun e2=>e e2.symm,h⟩
 have E2:bW g' (za hp1) (· < st.next+1) w g' (za (zo hp1 id (.af sz (af.set r (row.set j (.aU st.next all)))))) (· < st.next+1) w:={bW.refl g' (za hp1) (· < st.next+1) w with
  eb:=fun i b hb _ _ _ _=>.inl hb
  cE:=fun i hb _ _ _ _=>.inl hb
  af:=fun i _ s q h1=>by
   rcases hh i _ h1 with ⟨e1,e2⟩ | ⟨_,e2⟩
   ·subst e1;cases e2;exact ⟨_,ho',by simp⟩
   ·exact ⟨q,e2,rfl⟩
  cR:=fun i _ s l h1=>by
   rcases hh i _ h1 with ⟨_,e2⟩ | ⟨_,e2⟩
   ·cases e2
   ·exact ⟨l,e2,uh _⟩
  maps:=fun i _ es h1=>by
   rcases hh i _ h1 with ⟨_,e2⟩ | ⟨_,e2⟩
   ·cases e2
   ·exact ⟨es,e2⟩
  fB:=fun i _ ll RR s pe h1=>by
   rcases hh i _ h1 with ⟨_,e2⟩ | ⟨_,e2⟩
   ·cases e2
   ·exact ⟨s,pe,e2⟩}
 refine ⟨g',⟨⟨R.env.size,(R.env.defers.eO E).eO E2,fun t x hx=>((R.env.slot t x hx).mono E).mono E2⟩,⟨H.inj,H.lt,fun i o h1 => ?_,fun i b o h1 h2 => ?_,fun i s l h1 h2 => ?_,H.dX,H.fix.eO E2⟩⟩,fun g0 cK w0 hm E0=>bW.trans (bW.trans E0 E) E2⟩
 ·rcases hh i o h1 with ⟨e1,_⟩ | ⟨_,e2⟩
  ·subst e1;exact H.key _ _ ho'
  ·exact H.key i o e2
 ·rcases hh i o h2 with ⟨e1,e2⟩ | ⟨_,e2⟩
  ·rw [e1,AP,BV] at h1
   have hro:=H.obj _ b _ (by rw [AP,BV];exact h1) ho'
   cases h1
   subst e2
   simp only [cC] at hro ⊢
   obtain ⟨a1,c,e,a2,a3,a4⟩:=hro
   rw [k1] at a2
   cases a2
   have hrl:r < af.length:=(ua.1 hr).1
   have hjl:j < row.length:=(ua.1 hj).1
   refine ⟨a1,c0,e0,k1,fun i q hi => ?_,fun i q k x hi hk => ?_⟩
   ·rw [uk] at hi
    split at hi
    ·rename_i e3;subst e3;cases hi;simpa using a3 _ row hr
    ·exact a3 i q hi
   ·rw [uk] at hi
    split at hi
    ·rename_i e3
     subst e3
     cases hi
     rw [uk] at hk
     split at hk
     ·rename_i e4
      subst e4
      cases hk
      exact ⟨Pd,q1,q2,hv.mono E2⟩
     ·obtain ⟨cv,b1,b2,b3⟩:=a4 _ row k x hr hk
      exact ⟨cv,b1,b2,b3.mono E2⟩
    ·obtain ⟨cv,b1,b2,b3⟩:=a4 i q k x hi hk
     exact ⟨cv,b1,b2,b3.mono E2⟩
  ·exact (H.obj i b o h1 e2).keep E2 rfl rfl
 ·rcases hh i _ h1 with ⟨_,e2⟩ | ⟨_,e2⟩
  ·cases e2
  ·exact H.cQ i s l e2 h2
end
section
def BW:List Nat→List AV→List (Nat×AV)→List (Nat×AV)
 | p::ps,x::xs,env=>BW ps xs (zo env p x)
 | _,_,env=>env
def bB.round (C:bB) (l:Nat):bB:={C.toCtx with ro:=some l,eP:=none,Y:=tD,ou:=fun _ _ _ _ _ _ _ _ h=>h,De:=fun _ _ _ _ _ _ h=>h.elim}
def Pe (dD L:Nat) (R:LoopState→Option Code→Loop) (KK:AV→List (Nat×aG)→Nat→Prop):Exit→St→Prop
 | .normal,s=>za s.heap dD=some (.lp L R .busy none)∧KK (.ax (.bool true)) (zo s.heap dD (.lp L R .ready none)) (s.next+1)
 | .ret,s=>za s.heap dD=some (.lp L R .busy none)∧KK (.ax (.bool false)) (zo s.heap dD (.lp L R .done (some .ret))) (s.next+1)
 | .exit id,s=>za s.heap dD=some (.lp L R .busy none)∧KK (.ax (.bool false)) (zo s.heap dD (.lp L R .done (some (.exit id)))) (s.next+1)
 | _,_=>False
def Pf (C:bB) (nt:Fr) (dD L:Nat) (R:LoopState→Option Code→Loop) (y:cy) (KK:AV→List (Nat×aG)→Nat→Prop) (s:St):Prop:=
 za s.heap dD=some (.lp L R .ready none)∧cG (C.round L) nt y (Pe dD L R KK) ⟨s.env,zo s.heap dD (.lp L R .busy none),s.next+1⟩
def QG (C:bB) (nt:Fr) (env:List (Nat×AV)) (dD L:Nat) (R:LoopState→Option Code→Loop) (ps:List Nat) (x y:cy):Nat→Nat→List AV→List (Nat×aG)→Nat→(AV→List (Nat×aG)→Nat→Prop)→Prop:=
 fun l id args heap next KK=>l=L∧id=dD∧args.length=ps.length∧za heap dD=some (.lp L R .ready none) ∧
  cG (C.round L) nt x (vR (Pf C nt dD L R y KK) (fun _ _=>False)) ⟨BW ps args env,heap,next⟩
def GR (env:List (Nat×AV)) (dD L:Nat) (R:LoopState→Option Code→Loop) (K:Exit→St→Prop) (heap:List (Nat×aG)) (next:Nat):Prop:=
 (za heap dD=some (.lp L R .ready none)∧K .normal ⟨env,zo heap dD (.lp L R .exhausted none),next+1⟩) ∨
 (za heap dD=some (.lp L R .done (some .ret))∧K .ret ⟨env,zo heap dD (.lp L R .exhausted (some .ret)),next+1⟩) ∨
 (∃ id,za heap dD=some (.lp L R .done (some (.exit id)))∧K (.exit id) ⟨env,zo heap dD (.lp L R .exhausted (some (.exit id))),next+1⟩)
section
variable {C:bB} {nt:Fr} {g g':Gh} {st:St} {a:Act} {w:World}
theorem Pg {code:Code} {f:aZ} {ps:List Nat} {x y:cy} (hc:comp C nt.n code=some (.range f ps x y)):∃ fo pR p q,code=.rangeFunc fo pR p q∧f=C.bf fo∧ps=pR.toList∧(∀ t∈ps,t < nt.n)∧comp C nt.n p=some x∧comp C nt.n q=some y:=by
 cases code<;>simp only [comp] at hc<;>(repeat' split at hc)<;>cases hc
 rename_i hall _ _ h1 h2
 exact ⟨_,_,_,_,rfl,rfl,rfl,fun t ht=>by have:=ul.1 hall t ht;simpa using this,h1,h2⟩
theorem VX {env:List (Nat×AV)} {dD L:Nat} {R:LoopState→Option Code→Loop} {ps:List Nat} {x y:cy}:∀ l id args heap next (K K':AV→List (Nat×aG)→Nat→Prop),(∀ r h n,K r h n→K' r h n)→QG C nt env dD L R ps x y l id args heap next K→QG C nt env dD L R ps x y l id args heap next K':=by
 rintro l id args heap next K K' hk ⟨h1,h2,h3,h4,h5⟩
 refine ⟨h1,h2,h3,h4,qY (fun e s hs => ?_) h5⟩
 cases e with
 | normal=>
  refine ⟨hs.1,qY (fun e s hs => ?_) hs.2⟩
  cases e with
  | normal=>exact ⟨hs.1,hk _ _ _ hs.2⟩
  | ret=>exact ⟨hs.1,hk _ _ _ hs.2⟩
  | exit id=>exact ⟨hs.1,hk _ _ _ hs.2⟩
  | _=>exact hs
 | _=>exact hs
theorem GU {h:Nat→Option aG} {N:Nat→Prop}:∀ (ps:List Nat) (args:List AV) (vs:List Value) (env:List (Nat×AV)) (a:Act),(∀ t∈ps,t < nt.n)→RE C nt g env h N a w→nG C g h N w args vs →
  RE C nt g (BW ps args env) h N {a with tmps:=(ps.zip vs).foldl (fun t pv=>t.setIfInBounds pv.1 pv.2) a.tmps} w
 | [],args,vs,env,a,_,R,_=>by cases args<;>exact R
 | p::ps,[],vs,env,a,_,R,hv=>by
  have:vs=[]:=uq hv.1.symm
  subst this
  exact R
 | p::ps,x::xs,[],env,a,_,R,hv=>by have:=hv.1;simp at this
 | p::ps,x::xs,v::vs,env,a,hp,R,hv=>by
  have R1:=R.put p (hp p (by simp)) (hv.2 0 x v rfl rfl)
  have:=GU ps xs vs (zo env p x) (a.put (some p) v) (fun t ht=>hp t (by simp [ht])) R1 ⟨by have:=hv.1;simpa using this,fun j y u hj hu=>hv.2 (j+1) y u (by simpa using hj) (by simpa using hu)⟩
  exact this
theorem Y6 {heap:List (Nat×aG)} {next:Nat} {dD L:Nat} {R:LoopState→Option Code→Loop} {s s':LoopState} {pe lU:Option Code} (H:RH C g (za heap) (· < next) w) (ho:za heap dD=some (.lp L R s pe)) (hρ:g.ρ dD=some L) :
  w.heap[L]?=some (.loop (R s pe))∧bW g (za heap) (· < next) w g (za (zo heap dD (.lp L R s' lU))) (· < next+1) (w.putObj L (.loop (R s' lU)))∧RH C g (za (zo heap dD (.lp L R s' lU))) (· < next+1) (w.putObj L (.loop (R s' lU))):=by
 have H0:=H.obj dD L _ hρ ho
 obtain ⟨hz,_,hb⟩:=H0
 have E:=QA (id:=next) H hρ hz (.lp L R s pe) (.lp L R s' lU) ho (.loop (R s' lU)) ⟨rfl,rfl⟩ (fun c e hc=>by rw [hb] at hc;cases hc)
 have hR:=JZ (id:=next) H hρ (.lp L R s' lU) (.loop (R s' lU)) (fun _ _ h=>by cases h) E ⟨hz,rfl,by rw [zD w L _ (z6 hb),if_pos rfl]⟩
 rw [xm] at E hR
 have e1:bz [(dD,aG.lp L R s' lU)] (za heap)=za (zo heap dD (.lp L R s' lU)):=by
  funext i;simp only [bz,zp]
 rw [e1] at E hR
 exact ⟨hb,E,hR⟩
theorem Ph (hro:C.ro=none) {f:aZ} {ps:List Nat} {x y:cy} {K:Exit→St→Prop} {gf:Nat} {bp:List AV} (hf:zd st.env f=.func gf [] bp) {F:dz} (hF:qo C gf=some F.erase) (hn:bp.length+1≤F.nt)
  (h:∀ (L:Nat) (R:LoopState→Option Code→Loop) (eP:Option (Gh×St×World)) ym yk (B:Nat),
   cG ⟨C.toCtx,none,eP,QG C nt st.env st.next L R ps x y,ym,yk⟩ ⟨F.nt,B⟩ F.body (Di F fun _ heap next=>GR st.env st.next L R K heap next)
    ⟨jm 0 (.eB L st.next::bp),zo st.heap st.next (.lp L R .ready none),st.next+1⟩):cG C nt (.range f ps x y) K st:=by
 intro code hc g a w Rl hI
 obtain ⟨fo,pR,p,q,rfl,rfl,rfl,hps,hp,hq⟩:=Pg hc
 rw [hro]
 refine wpIn_rangeFunc ?_
 intro fn _
 have hv:=Zv Rl fo
 rw [hf] at hv
 generalize hval:a.eval fo=v at hv
 cases hv with
 | func _ _ _ vf vc hlf hlc FP hc1=>
 obtain rfl:vf=[]:=uq hlf.symm
 obtain ⟨R,pE⟩:∃ R:LoopState→Option Code→Loop,R=fun s pe=>{state:=s,pending:=pe,fn,tmps:=a.tmps,params:=pR,assign:=p,body:=q,defers:=w.heap.size}:=⟨_,rfl⟩
 have hRs:∀ s s' pe lU,{R s pe with state:=s',pending:=lU}=R s' lU:=fun s s' pe lU=>by rw [pE]
 have hB:Below w.heap.size w (w.alloc (.deferred (some []))):=(Below.refl _ w).alloc (uh _) _
 have E0:bW g (za st.heap) (· < st.next) w g (za st.heap) (· < st.next) (w.alloc (.deferred (some []))):=xw Rl.heap hB (fun _ _=>rfl)
 have H0:RH C g (za st.heap) (· < st.next) (w.alloc (.deferred (some []))):=yp Rl.heap hB (fun _ _=>rfl) (fun b hb=>by have:=Rl.heap.dX b hb;simp;omega)
 have hid:¬ (st.next < st.next):=un _
 have E1:=XW (id:=st.next) H0 hid (.loop (R .ready none)) (.lp (w.heap.size+1) R .ready none) 0
 have H1:=CU (id:=st.next) H0 hid (.loop (R .ready none)) (.lp (w.heap.size+1) R .ready none) 0 ⟨by simp [Gh.at],by simp,zW _ _⟩
 have e1:bz [(st.next,aG.lp (w.heap.size+1) R .ready none)] (za st.heap)=za (zo st.heap st.next (.lp (w.heap.size+1) R .ready none)):=by
  funext i;simp only [bz,zp]
 rw [xm,e1] at E1 H1
 obtain ⟨W1,DL⟩:∃ W1,(w.alloc (.deferred (some []))).alloc (.loop (R .ready none))=W1:=⟨_,rfl⟩
 rw [DL] at E1 H1
 have hl:(w.alloc (.deferred (some []))).heap.size=w.heap.size+1:=by simp
 rw [hl] at E1 H1
 obtain ⟨g1,fZ⟩:∃ g1,g.at st.next (w.heap.size+1) 0=g1:=⟨_,rfl⟩
 have hρ:g1.ρ st.next=some (w.heap.size+1):=by rw [←fZ];simp [Gh.at]
 have hown:¬ vL g1 w.heap.size:=by
  rw [←fZ]
  rintro ⟨i,hi⟩
  simp only [Gh.at] at hi
  split at hi
  ·have:=Option.some.inj hi;omega
  ·have:=(Rl.heap.lt i _ hi).1;omega
 rw [fZ] at E1 H1
 have sF:=bW.trans E0 E1
 have Pj:W1.heap[w.heap.size]?=some (.deferred (some [])):=by
  rw [←DL];exact (qu _ _ (by simp)).trans (zW _ _)
 have M1:Marks nt.B g1 W1 ({target:=.collected w.heap.size,args := #[]}::a.defers):=by
  obtain ⟨m0,Ds,m1,m2,m3⟩:=Rl.env.defers
  refine ⟨ux m0 sF.size,w.heap.size::Ds,by rw [m1];rfl,List.nodup_cons.2 ⟨fun hm => ?_,m2⟩,fun D hD => ?_⟩
  ·have:=(uu.1 (m3 _ hm).2.1).1;omega
  ·rcases ud.1 hD with rfl | hD
   ·exact ⟨m0,Pj,hown⟩
   ·obtain ⟨n1,n2,n3⟩:=m3 D hD
    have hlt:=(uu.1 n2).1
    exact ⟨n1,(sF.old D hlt n3).1.trans n2,fun ho=>(sF.own D ho).elim n3 (fun h=>by omega)⟩
 have yk:∀ l id args heap next KK,QG C nt st.env st.next (w.heap.size+1) R pR.toList x y l id args heap next KK→∀ (g':Gh) (w':World) (vs:List Value),RH C g' (za heap) (· < next) w'→nG C g' (za heap) (· < next) w' args vs→(∀ R s pe,za heap id=some (.lp l R s pe)→g'.ρ id=some l) →
   bW g1 (za (zo st.heap st.next (.lp (w.heap.size+1) R .ready none))) (· < st.next+1) W1 g' (za heap) (· < next) w' →
   YieldAt Fence.wide 0 C.P l vs.toArray w' fun e w''=>∃ v r heap' next' g'',e=.returned v∧KK r heap' next'∧bW g' (za heap) (· < next) w' g'' (za heap') (· < next') w''∧RH C g'' (za heap') (· < next') w''∧RV C g'' (za heap') (· < next') w'' r v:=by
  rintro l id args heap next KK ⟨rfl,rfl,hlen,mN,hwp⟩ g' w' vs H' hvs hlp E'
  have GV:=hlp R _ _ mN
  have hb':w'.heap[w.heap.size+1]?=some (.loop (R .ready none)):=(H'.obj _ _ _ GV mN).2.2
  have DM:vs.toArray.size=(R .ready none).params.size:=by rw [pE];have:=hvs.1;simp only [List.size_toArray];rw [←this,hlen];simp
  have hy:=run_yield (P:=C.P) hb' DM
  refine ⟨_,_,_,_,hy,?_⟩
  rw [pE]
  simp only
  refine roundIn_of_wpIn trivial ?_
  have AQ:=bW.trans sF E'
  have Pk:RE C nt g' st.env (za heap) (· < next) {a with defers:=[]} w':=⟨Rl.env.size,Marks.nil _ (ux Rl.env.defers.1 AQ.size),fun t z hz=>(Rl.env.slot t z hz).mono AQ⟩
  have Pm:=GU pR.toList args vs st.env {a with defers:=[]} hps Pk hvs
  have hz:(pR.zip vs.toArray).foldl (fun tmps (t,a)=>tmps.setIfInBounds t a) a.tmps=(pR.toList.zip vs).foldl (fun t pv=>t.setIfInBounds pv.1 pv.2) a.tmps:=by
   rw [←Array.foldl_toList];simp
  rw [hz]
  refine Code.wpIn_mono ?_ (hwp p hp g' _ w' ⟨Pm,H'⟩ trivial)
  rintro e a1 w1 ⟨nU,DN,hk,R1,E2⟩
  cases e with
  | normal=>
   obtain ⟨hk1,hk2⟩:=hk
   have BX:DN.ρ st.next=some (w.heap.size+1):=by
    rcases E2.eb _ _ GV _ hk1 (by simp) (H'.key _ _ mN) with h4 | ⟨_,_,_,_,_,e2,_⟩
    ·exact h4
    ·cases e2
   obtain ⟨sG,E3,H3⟩:=Y6 (s':=.busy) (lU:=none) R1.heap hk1 BX
   refine ⟨_,run_beginRound sG (by rw [pE]),?_⟩
   have e3:({R .ready none with state:=.busy}:Loop)=R .busy none:=by rw [pE]
   rw [e3]
   have R3:Rel C nt DN ⟨nU.env,zo nU.heap st.next (.lp (w.heap.size+1) R .busy none),nU.next+1⟩ a1 (w1.putObj (w.heap.size+1) (.loop (R .busy none))):=⟨R1.env.mono E3,H3⟩
   refine Code.wpIn_mono ?_ (hk2 q hq DN a1 _ R3 trivial)
   rintro e a4 w4 ⟨DO,g4,gR,R4,E4⟩
   have fin:∀ (jump:Option Code),za DO.heap st.next=some (.lp (w.heap.size+1) R .busy none)→KK (.ax (.bool jump.isNone)) (zo DO.heap st.next (.lp (w.heap.size+1) R (if jump.isNone then .ready else .done) jump)) (DO.next+1) →
     ∃ v w'',(Instr.endRound (w.heap.size+1) jump).run C.P w4=.ok v w''∧∃ v' r heap' next' g'',Ending.returned v=.returned v'∧KK r heap' next'∧bW g' (za heap) (· < next) w' g'' (za heap') (· < next') w''∧RH C g'' (za heap') (· < next') w''∧RV C g'' (za heap') (· < next') w'' r v':=fun jump h5 h6=>by
    have Pn:g4.ρ st.next=some (w.heap.size+1):=by
     rcases E4.eb _ _ BX _ h5 (by simp) (R3.heap.key st.next (.lp (w.heap.size+1) R .busy none) (by simp only [zp,if_true])) with h7 | ⟨_,_,_,_,_,e2,_⟩
     ·exact h7
     ·cases e2
    obtain ⟨hb4,E5,H5⟩:=Y6 (s':=if jump.isNone then .ready else .done) (lU:=jump) R4.heap h5 Pn
    have hrun:=run_endRound (P:=C.P) jump hb4
    have e5:({R .busy none with state:=if jump.isNone then .ready else .done,pending:=jump}:Loop)=R (if jump.isNone then .ready else .done) jump:=by rw [pE]
    rw [e5] at hrun
    exact ⟨_,_,hrun,_,_,_,_,g4,rfl,h6,bW.trans (bW.trans (bW.trans E2 E3) E4) E5,H5,.ax _ _ (.bool _)⟩
   cases e with
   | normal=>exact fin none gR.1 gR.2
   | ret=>exact fin (some .ret) gR.1 gR.2
   | exit id=>exact fin (some (.exit id)) gR.1 gR.2
   | _=>exact gR.elim
  | _=>exact hk.elim
 have hargs:nG C g1 (za (zo st.heap st.next (.lp (w.heap.size+1) R .ready none))) (· < st.next+1) W1 (.eB (w.heap.size+1) st.next::bp) (.func (.yield (w.heap.size+1)) #[] #[]::vc):=by
  refine ⟨by simp [hlc],fun j z u hj hu => ?_⟩
  cases j with
  | zero=>
   simp at hj hu
   subst hj hu
   exact .eB _ _ (uG _) fun R' s pe he=>hρ
  | succ j=>exact (hc1 j z u (by simpa using hj) (by simpa using hu)).mono sF
 have fT:=Wx (C:=⟨C.toCtx,none,some (g1,⟨[],zo st.heap st.next (.lp (w.heap.size+1) R .ready none),st.next+1⟩,W1),QG C nt st.env st.next (w.heap.size+1) R pR.toList x y,VX,yk⟩) rfl hF (by simpa [Nat.add_comm] using hn)
  (h (w.heap.size+1) R (some (g1,⟨[],zo st.heap st.next (.lp (w.heap.size+1) R .ready none),st.next+1⟩,W1)) VX yk) H1 hargs (bW.refl _ _ _ _)
 obtain ⟨GW,codeF,DP,sH,sI,_⟩:=Zx hF
 have eg:∀ args w,(callFunc (C.ed gf) args).run C.P w=.ok (.enter (C.ed gf) args) w:=fun args w=>by
  have h4:¬ GW.body=none:=fun h=>by simp [h] at sH
  have h5 : ¬ GW.name = "runtime.NumGoroutine" := fun h => by simp [h] at sI
  simp [callFunc,DP,h4,h5]
 refine ⟨w.heap.size+1,[{target:=.collected w.heap.size,args := #[]}],W1,{target:=.fn (.func (C.ed gf)) vc.toArray,args := #[.func (.yield (w.heap.size+1)) #[] #[]]},W1,C.ed gf,
  #[.func (.yield (w.heap.size+1)) #[] #[]]++vc.toArray,W1,?_,?_,fun _ _=>trivial,?_,fun h=>(by cases h),?_⟩
 ·rw [←DL,pE];exact run_enterLoop_outer _ _ _ _ _
 ·simp only [resolve,hval]
  simp [go_sem]
 ·simp [invoke,go_sem,eg]
 ·have mI : #[Value.func (.yield (w.heap.size+1)) #[] #[]]++vc.toArray=(Value.func (.yield (w.heap.size+1)) #[] #[]::vc).toArray:=by apply Array.ext';simp
  rw [mI]
  refine (callsIn_wide.2 fT).mono ?_
  rintro e w2 ⟨v,r,heap',next',g2,rfl,hK,E2,H2,_⟩
  have fin:∀ (s:LoopState) (pe:Option Code),s≠.busy→za heap' st.next=some (.lp (w.heap.size+1) R s pe)→(Instr.endLoop (w.heap.size+1)).run C.P w2=.ok pe (w2.putObj (w.heap.size+1) (.loop (R .exhausted pe))) ∧
    Rel C nt g2 ⟨st.env,zo heap' st.next (.lp (w.heap.size+1) R .exhausted pe),next'+1⟩ {a with defers:={target:=.collected w.heap.size,args := #[]}::a.defers} (w2.putObj (w.heap.size+1) (.loop (R .exhausted pe))) ∧
    dB g st w g2 ⟨st.env,zo heap' st.next (.lp (w.heap.size+1) R .exhausted pe),next'+1⟩ (w2.putObj (w.heap.size+1) (.loop (R .exhausted pe))):=fun s pe hs ho=>by
   have Po:g2.ρ st.next=some (w.heap.size+1):=by
    rcases E2.eb _ _ hρ _ ho (by simp) (uG _) with h4 | ⟨_,_,_,_,_,e2,_⟩
    ·exact h4
    ·cases e2
   obtain ⟨lg,E3,H3⟩:=Y6 (s':=.exhausted) (lU:=pe) H2 ho Po
   have hrun:=run_endLoop (P:=C.P) lg (by rw [pE];exact hs)
   have e5:({R s pe with state:=.exhausted}:Loop)=R .exhausted pe:=by rw [pE]
   have e6:(R s pe).pending=pe:=by rw [pE]
   rw [e5,e6] at hrun
   have DQ:=bW.trans E2 E3
   exact ⟨hrun,⟨⟨Rl.env.size,M1.eO DQ,fun t z hz=>((Rl.env.slot t z hz).mono sF).mono DQ⟩,H3⟩,bW.trans sF DQ⟩
  rcases hK with ⟨h1,h2⟩ | ⟨h1,h2⟩ | ⟨id,h1,h2⟩
  ·obtain ⟨f1,f2,f3⟩:=fin _ _ (by simp) h1
   exact ⟨none,_,f1,_,g2,h2,f2,f3⟩
  ·obtain ⟨f1,f2,f3⟩:=fin _ _ (by simp) h1
   exact ⟨some .ret,_,f1,wpIn_ret ⟨_,g2,h2,f2,f3⟩⟩
  ·obtain ⟨f1,f2,f3⟩:=fin _ _ (by simp) h1
   exact ⟨some (.exit id),_,f1,wpIn_exit ⟨_,g2,h2,f2,f3⟩⟩
end
end
end Go.Proofs.YtgpojcfkanjabaaGreatDoor
