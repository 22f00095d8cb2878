/-
  Regions run by the kernel: what is not decided by reckoning (tests, lengths, elements, answers of calls) is told ahead ('Orc'), and what is told is asked for as a list of facts.
  Forgetting, and the end of a function, by the kernel.
  Slices that are nil or not; renaming; copies of slices (slices.Clone).
  A slice with an owner that is written no more may be taken for data.
  Loops whose states have names that are found on the way; slices of slices that grow.
  A slice with an owner that will only grow may be taken for one that grows.
  The abstract machine: ranges over functions. The iterator's code is run where the loop stands; its calls of yield run the loop's body.
  An object whose cells are slices that grow: the tips have names of a range of their own, behind a mark in the list of objects.
-/
import Derived.Test.YtcmmhbmgpflmeaaGreatDoorTD04
open List renaming getElem?_eq_some_iff → ua, mem_cons → ub, replicate → uc, map → ue, getElem?_set → uf, map_cons → ug, all_eq_true → uh, getElem?_replicate → uj, getElem?_map → uk, eq_nil_of_length_eq_zero → uq, getElem?_cons_succ → uv, getElem?_cons_zero → uw, cons_append → uC, map_map → uE
open Option renaming map_eq_some_iff → ul, none_or → uu, map_some → uD
open Bool renaming false_eq_true → uA
open Nat renaming le_refl → ud, lt_irrefl → ui, le_of_ble_eq_true → um, blt_eq → un, blt → uo, lt_of_lt_of_le → ur, zero_add → ux, le_trans → uy, mul_le_mul_right → uz, lt_succ_self → uB, zero_le → uF, ble → uG, beq → uH
open Array renaming getElem?_eq_some_iff → ut
namespace Go.Proofs.YtcmmhbmgpflmeaaGreatDoor
open Go.RowKit
set_option linter.unusedSimpArgs false
set_option linter.unusedVariables false
section
inductive fA where
 | g (b:Bool)
 | n (k:Int)
 | r (row:List IV)
 | v (x:IV)
 | w (ids:List Nat) (dH:List IV) (x:IV)
 | s (af:List (List IV))
 | k (row:Nat)
 | ar (row:List AV)
 | aw (row:List AV) (af:List (List AV))
 | m (n:Nat) (af:List (List AV))
 | a (af:List (List IV)) (n:Nat)
 | b (af:List (List AV)) (n:Nat)
 | c (l:List Nat) (m:Nat) (r:AV) (aQ:List (Nat×aI)) (d:Nat)
 | l (x:AV) (b:Bool)
 | u (es:List (IV×AV))
def Gq (af:List (List IV)) (n:Int) (row:List IV):Prop:=0≤n∧af[n.toNat]?=some row
def A7 (af:List (List IV)) (k:Int):Prop:=(af.length:Int)=k
def Gr (af:List (List IV)) (sz:Nat) (a b:Int) (r:List (List IV)):Prop:=0≤a∧a≤b∧b≤(af.length:Int)∧(af.all fun row=>row.length == sz)=true∧(af.take b.toNat).drop a.toNat=r
def Yg (op:BinOp) (a b r:IV):Prop:=yz op a b=some r
def XA (n:Int) (off len row:Nat):Prop:=0≤n∧n < (len:Int)∧off+n.toNat=row
def Yh (af:List (List AV)) (r:Nat) (row:List AV):Prop:=af[r]?=some row
def Gs (af:List (List AV)) (r:Nat) (row new:List AV) (ef:List (List AV)):Prop:=af[r]?=some row∧af.set r new=ef
def DB (n:Int) (bI:Nat) (zero:List AV) (k:Nat) (af:List (List AV)):Prop:=(0≤n∧n < 2 ^ 31∧n*bI≤140737488355328)∧n.toNat=k∧uc k zero=af
def Gt (sz:Nat) (af new ef:List (List AV)) (len:Nat):Prop:=len=af.length∧new.length=len∧(new.all fun row=>row.length == sz)=true∧new=ef
def DC (sz bI:Nat) (old new af:List (List IV)) (len k:Nat):Prop:=(new.all fun row=>row.length == sz)=true∧old.length=len∧(len+new.length)*bI≤140737488355328∧old++new=af∧len+new.length=k
def NF (sz bI:Nat) (old new af:List (List AV)) (len k:Nat):Prop:=(new.all fun row=>row.length == sz)=true∧len=old.length∧(len+new.length)*bI≤140737488355328∧old++new=af∧len+new.length=k
def DD (str:Bool) (zero:AV) (k:IV) (es:List (IV×AV)) (x:AV) (b:Bool):Prop:=(jD str k&&xf k es)=true∧((zW k es=some x∧b=true)∨(zW k es=none∧zero=x∧b=false))
def DE (str:Bool) (k:IV) (v:AV) (es es':List (IV×AV)):Prop:=(jD str k&&xf k es)=true∧qj k v es=es'
def NG (str:Bool) (zero:AV) (k y:IV) (x:AV) (b:Bool):Prop:=∃ es,jf (fun _=>none) (.ak y)=some es∧DD str zero k es x b
def NH (neg:Bool) (y r:IV):Prop:=∃ b,vD (fun _=>none) (.ak y)=some b∧r=.bool (if neg then !b else b)
def DF (args:List AV) (cj:List (Nat×aI)) (dH:List IV):Prop:=aY (zJ (zc cj) 5) args=some dH
def NI (D:List Nat):bD→Bool
 | .t n=>D.contains n
 | .c _=>true
 | .m _ _=>false
abbrev xZ:=Option (AV×List (Nat×aI)×List Nat×List fA×List Prop×Nat)
def jz (op:dc) (cB:List fA) (st:St):xZ:=match ap op (zd st.env) (zc st.heap) st.next with
 | some (r,aQ)=>some (r,aQ,zq op (zd st.env),cB,[],0)
 | none=>none
def Gu (op:dc) (cB:List fA) (st:St) (lit:Bool) (a b:AV):AV→xZ
 | .ak (.bool x)=>match lit with
  | true=>match x with
   | true=>some (a,[],zq op (zd st.env),cB,[],0)
   | false=>some (b,[],zq op (zd st.env),cB,[],0)
  | false=>match cB with
   | .g true::o=>some (a,[],zq op (zd st.env),o,[x=true],0)
   | .g false::o=>some (b,[],zq op (zd st.env),o,[x=false],0)
   | _=>none
 | _=>none
def Gv (op:dc) (cB:List fA) (st:St):AV→xZ
 | .ak (.slice af) | .aX _ af=>match cB with
  | .n k::o=>some (.ak (.int .i64 k),[],zq op (zd st.env),o,[A7 af k],0)
  | _=>none
 | _=>jz op cB st
def Gw (op:dc) (sz:Nat) (cB:List fA) (st:St) (i:AV):AV→xZ
 | .ak (.slice af) | .aX _ af=>match i with
  | .ak (.int _ n)=>match cB with
   | .r row::o=>if row.length=sz then some (.cD row,[],zq op (zd st.env),o,[Gq af n row],0) else none
   | _=>none
  | _=>none
 | .Zag j off len=>match cB with
  | .k row::o=>match i with
   | .ak (.int _ n)=>match zc st.heap j with
    | some (.af sz' _)=>if sz'=sz then some (.ptr j row 0,[],zq op (zd st.env),o,[XA n off len row],0) else none
    | _=>none
   | _=>none
  | _=>jz op cB st
 | _=>jz op cB st
def Gx (op:dc) (len sz:Nat) (cB:List fA) (st:St) (i x:AV):xZ:=match cB with
 | .k row::o=>match x with
  | .ptr j 0 0=>match i with
   | .ak (.int _ n)=>match zc st.heap j with
    | some (.af sz' _)=>if sz'=sz then some (.ptr j row 0,[],zq op (zd st.env),o,[XA n 0 len row],0) else none
    | _=>none
   | _=>none
  | _=>none
 | _=>jz op cB st
def Gy (op:dc) (A8:BinOp) (cB:List fA) (st:St) (x y:AV):xZ:=match A8 with
 | .quo | .rem | .shl | .shr=>match x,y with
  | .ak a,.ak b=>match cB with
   | .v r::o=>some (.ak r,[],zq op (zd st.env),o,[Yg A8 a b r],0)
   | _=>none
  | _,_=>none
 | _=>jz op cB st
def Cb (st:St) (dflt:Int):Option bD→Option Int
 | none=>some dflt
 | some y=>match zd st.env y with
  | .ak (.int _ n)=>some n
  | _=>none
def Gz (op:dc) (sz:Nat) (cB:List fA) (st:St) (lo hi:Option bD):AV→xZ
 | .ak (.slice af)=>match Cb st 0 lo,Cb st (af.length:Int) hi,cB with
  | some a,some b,.s r::o=>some (.ak (.slice r),[],zq op (zd st.env),o,[Gr af sz a b r],0)
  | _,_,_=>none
 | _=>none
def DG (C:Ctx) (cB:List fA) (st:St) (args:List AV):AV→xZ
 | .func f first bC=>match cB with
  | .v x::o=>match aY (zJ (zc st.heap) 5) (first++args++bC) with
   | some dH=>match (first++args++bC).all (xr 5) with
    | true=>some (.ak x,[],[],o,[aO C f dH x],0)
    | false=>none
   | none=>none
  | .w ids dH x::o=>match wt st.heap ids with
   | some cj=>match xQ x with
    | true=>some (.ak x,[],ids,o,[aO C f dH x,DF (first++args++bC) cj dH],0)
    | false=>none
   | none=>none
  | .c l m r aQ d::o=>match wt st.heap l with
   | some cj=>match ZZ l m st.next with
    | true=>some (r,aQ,l,o,[lR C f (first++args++bC) l m st.next cj r aQ d],d)
    | false=>none
   | none=>none
  | _=>none
 | _=>none
def GA (op:dc) (agg:Bool) (n:Nat) (cB:List fA) (st:St) (x:AV):xZ:=match cB with
 | .ar row::o=>match x with
  | .ptr i r f=>match zc st.heap i with
   | some (.af _ af)=>match agg with
    | true=>if f+n≤row.length then some (.agg ((row.drop f).take n),[],zq op (zd st.env),o,[Yh af r row],0) else none
    | false=>match row[f]? with
     | some c=>some (c,[],zq op (zd st.env),o,[Yh af r row],0)
     | none=>none
   | _=>none
  | _=>none
 | _=>jz op cB st
def GB (op:dc) (n:Nat) (cB:List fA) (st:St) (x:AV) (v:Option (List AV)):xZ:=match cB with
 | .aw row ef::o=>match x with
  | .ptr i r f=>match v with
   | some cs=>match zc st.heap i with
    | some (.af sz af)=>if cs.length=n∧f+n≤row.length then some (.undef,[(i,.af sz ef)],zq op (zd st.env),o,[Gs af r row (qJ row f cs) ef],0) else none
    | _=>none
   | none=>none
  | _=>none
 | _=>jz op cB st
def GC (op:dc) (sz bI:Nat) (zero:List AV) (cB:List fA) (st:St) (x:AV):xZ:=match cB with
 | .m k af::o=>match x with
  | .ak (.int .i64 n)=>some (.Zag st.next 0 k,[(st.next,.af sz af)],zq op (zd st.env),o,[DB n bI zero k af],0)
  | _=>none
 | _=>jz op cB st
def GD (op:dc) (sz bI:Nat) (cB:List fA) (st:St) (x:AV) (s:AV):xZ:=match cB with
 | .a af k::o=>match jU (zc st.heap) x with
  | some new=>match s with
   | .nil=>some (.aX st.next af,[(st.next,.bf sz k)],zq op (zd st.env),o,[DC sz bI [] new af 0 k],0)
   | .aX i old=>match zc st.heap i with
    | some (.bf sz' len)=>if sz'=sz then some (.aX i af,[(i,.bf sz k)],zq op (zd st.env),o,[DC sz bI old new af len k],0) else none
    | _=>none
   | _=>none
  | none=>none
 | .b af k::o=>match xw (zc st.heap) x with
  | some new=>match s with
   | .Zag i off len=>match zc st.heap i with
    | some (.af sz' old)=>if sz'=sz∧off=0 then some (.Zag st.next 0 k,[(st.next,.af sz af),(i,.dead)],zq op (zd st.env),o,[NF sz bI old new af len k],0) else none
    | _=>none
   | _=>none
  | none=>none
 | _=>jz op cB st
def GF (op:dc) (str:Bool) (zero:AV) (ok:Bool) (cB:List fA) (st:St) (k m:AV):xZ:=match cB with
 | .l x b::o=>match m,k with
  | .map i,.ak k=>match zc st.heap i with
   | some (.map es)=>some (match ok with | true=>.tuple [x,.ak (.bool b)] | false=>x,[],zq op (zd st.env),o,[DD str zero k es x b],0)
   | _=>none
  | .ak y,.ak k=>some (match ok with | true=>.tuple [x,.ak (.bool b)] | false=>x,[],zq op (zd st.env),o,[NG str zero k y x b],0)
  | _,_=>none
 | _=>jz op cB st
def GG (op:dc) (str:Bool) (cB:List fA) (st:St) (v k m:AV):xZ:=match cB with
 | .u es'::o=>match m,k with
  | .map i,.ak k=>match zc st.heap i with
   | some (.map es)=>some (.undef,[(i,.map es')],zq op (zd st.env),o,[DE str k (jV v) es es'],0)
   | _=>none
  | _,_=>none
 | _=>jz op cB st
def GH (op:dc) (neg:Bool) (cB:List fA) (st:St) (x y:AV):xZ:=match cB with
 | .v r::o=>match x,y with
  | .ak a,.ak .dl=>some (.ak r,[],zq op (zd st.env),o,[NH neg a r],0)
  | _,_=>none
 | _=>jz op cB st
def GI (op:dc) (sz:Nat) (cB:List fA) (st:St) (x:AV) (d:AV):xZ:=match cB with
 | .b ef _::o=>match xw (zc st.heap) x with
  | some new=>match d with
   | .Zag i 0 len=>match zc st.heap i with
    | some (.af sz' af)=>if sz'=sz then some (.ak (.int .i64 (len:Int)),[(i,.af sz ef)],zq op (zd st.env),o,[Gt sz af new ef len],0) else none
    | _=>none
   | _=>none
  | none=>none
 | _=>jz op cB st
def GJ (op:dc) (len sz:Nat) (cB:List fA) (st:St) (i x:AV):xZ:=match cB with
 | .k row::o=>match x with
  | .agg cs=>match i with
   | .ak (.int _ n)=>match cs[row]? with
    | some c=>if sz=1 then some (c,[],zq op (zd st.env),o,[XA n 0 len row],0) else none
    | none=>none
   | _=>none
  | _=>none
 | _=>jz op cB st
def ic (C:Ctx) (op:dc) (cB:List fA) (D:List Nat) (st:St):xZ:=match op with
 | .pick c a b=>Gu op cB st (NI D c) (zd st.env a) (zd st.env b) (zd st.env c)
 | .len x=>Gv op cB st (zd st.env x)
 | .idx sz x i=>Gw op sz cB st (zd st.env i) (zd st.env x)
 | .idxa len sz x i=>Gx op len sz cB st (zd st.env i) (zd st.env x)
 | .bin A8 x y=>Gy op A8 cB st (zd st.env x) (zd st.env y)
 | .slc sz x lo hi=>Gz op sz cB st lo hi (zd st.env x)
 | .call f args=>DG C cB st (args.map (zd st.env)) (zd st.env f)
 | .load agg n x=>GA op agg n cB st (zd st.env x)
 | .store n x v=>GB op n cB st (zd st.env x) (cellsOf (zd st.env v))
 | .mks sz bI zero n=>GC op sz bI zero cB st (zd st.env n)
 | .app sz bI s x=>GD op sz bI cB st (zd st.env x) (zd st.env s)
 | .look str zero ok m k=>GF op str zero ok cB st (zd st.env k) (zd st.env m)
 | .upd str m k v=>GG op str cB st (zd st.env v) (zd st.env k) (zd st.env m)
 | .eqnm neg x y=>GH op neg cB st (zd st.env x) (zd st.env y)
 | .copy sz d x=>GI op sz cB st (zd st.env x) (zd st.env d)
 | .ixa len sz x i=>GJ op len sz cB st (zd st.env i) (zd st.env x)
 | op=>jz op cB st
def Va (gd:Option (Nat×Bool)) (cB:List fA) (D:List Nat) (st:St):Option (Bool×List fA×List Prop×List Nat×St):=match gd with
 | none=>some (true,cB,[],D,st)
 | some (t,want)=>match (zc st.env t).getD .top with
  | .undef=>some (false,cB,[],D,st)
  | .ak (.bool b)=>match D.contains t with
   | true=>match b with
    | true=>some (want,cB,[],D,st)
    | false=>some (!want,cB,[],D,st)
   | false=>match cB with
    | .g true::o=>some (want,o,[b=true],t::D,{st with env:=zs st.env t (.ak (.bool true))})
    | .g false::o=>some (!want,o,[b=false],t::D,{st with env:=zs st.env t (.ak (.bool false))})
    | _=>none
  | _=>none
def St.oC (st:St) (dst:Option Nat) (r:AV) (aQ:List (Nat×aI)) (d:Nat):St:=
 St.put {st with heap:=zl aQ st.heap,next:=st.next+d+1} dst r
def Cc (D:List Nat):Option Nat→List Nat
 | some d=>D.filter (· != d)
 | none=>D
section
variable {C:Ctx}
theorem QD {α:Type}:∀ {l:List (Nat×α)} {t:Nat} {x:α},zc l t=some x→zs l t x=l
 | [],t,x,h=>by cases h
 | (k,v)::r,t,x,h=>by
  simp only [zc] at h
  simp only [zs]
  split at h
  ·rename_i e;subst e;cases h;simp
  ·rename_i e;rw [if_neg e,QD h]
theorem qq {op:dc} {cB o':List fA} {st:St} {r:AV} {aQ:List (Nat×aI)} {rd:List Nat} {ps:List Prop} {d:Nat} (h:jz op cB st=some (r,aQ,rd,o',ps,d)) :
  ap op (zd st.env) (zc st.heap) st.next=some (r,aQ)∧rd=zq op (zd st.env)∧d=0:=by
 unfold jz at h
 split at h
 ·rename_i e;cases h;exact ⟨e,rfl,rfl⟩
 ·cases h
def gp:dc→Bool
 | .call _ _=>true
 | _=>false
theorem NJ {st:St} {sz id:Nat} {x:bD} {lo hi:Option bD} {af:List (List IV)} {h:Nat→Option aI} (hx:zd st.env x=.ak (.slice af)):ap (.slc sz x lo hi) (zd st.env) h id=match Cb st 0 lo,Cb st (af.length:Int) hi with
  | some a,some b=>if 0≤a∧a≤b∧b≤(af.length:Int)∧(af.all fun row=>row.length == sz)=true then some (.ak (.slice ((af.take b.toNat).drop a.toNat)),[]) else none
  | _,_=>none:=by
 simp only [ap,hx]
 cases lo<;>cases hi<;>rfl
theorem GK {op:dc} {cB o':List fA} {D:List Nat} {st:St} {r:AV} {aQ:List (Nat×aI)} {rd:List Nat} {ps:List Prop} {d:Nat} (hc:gp op=false) (h:ic C op cB D st=some (r,aQ,rd,o',ps,d)) (hp:dz ps) :
  ap op (zd st.env) (zc st.heap) st.next=some (r,aQ)∧rd=zq op (zd st.env)∧d=0:=by
 cases op
 case call=>cases hc
 case pick c a b=>
  simp only [ic] at h
  unfold Gu at h
  simp only [ap]
  split at h
  ·rename_i x hx
   split at h
   ·split at h<;>(cases h;rw [hx];exact ⟨rfl,rfl,rfl⟩)
   ·split at h
    ·cases h;have:=hp.one;subst this;rw [hx];exact ⟨rfl,rfl,rfl⟩
    ·cases h;have:=hp.one;subst this;rw [hx];exact ⟨rfl,rfl,rfl⟩
    ·cases h
  ·cases h
 case len x=>
  simp only [ic] at h
  unfold Gv at h
  split at h
  ·rename_i af hx
   split at h
   ·cases h
    have:=hp.one
    refine ⟨?_,rfl,rfl⟩
    simp only [ap,xR,hx]
    unfold A7 at this
    rw [this]
   ·cases h
  ·rename_i af hx
   split at h
   ·cases h
    have:=hp.one
    refine ⟨?_,rfl,rfl⟩
    simp only [ap,xR,hx]
    unfold A7 at this
    rw [this]
   ·cases h
  ·exact qq h
 case idx sz x i=>
  simp only [ic] at h
  unfold Gw at h
  split at h
  ·rename_i af hx
   split at h
   ·rename_i k n hi
    split at h
    ·split at h
     ·rename_i hl
      cases h
      have:=hp.one
      refine ⟨?_,rfl,rfl⟩
      simp only [ap,hx,hi,if_pos this.1,this.2,if_pos hl]
     ·cases h
    ·cases h
   ·cases h
  ·rename_i af hx
   split at h
   ·rename_i k n hi
    split at h
    ·split at h
     ·rename_i hl
      cases h
      have:=hp.one
      refine ⟨?_,rfl,rfl⟩
      simp only [ap,hx,hi,if_pos this.1,this.2,if_pos hl]
     ·cases h
    ·cases h
   ·cases h
  ·rename_i j off len hx
   split at h
   ·split at h
    ·rename_i k n hi
     split at h
     ·rename_i sz' af ho
      split at h
      ·rename_i hsz
       cases h
       obtain ⟨h1,h2,h3⟩:=hp.one
       refine ⟨?_,rfl,rfl⟩
       simp only [ap,hx,hi,ho]
       rw [if_pos ⟨hsz,h1,h2⟩,h3]
      ·cases h
     ·cases h
    ·cases h
   ·exact qq h
  ·exact qq h
 case idxa len sz x i=>
  simp only [ic] at h
  unfold Gx at h
  split at h
  ·split at h
   ·rename_i j hx
    split at h
    ·rename_i k n hi
     split at h
     ·rename_i sz' af ho
      split at h
      ·rename_i hsz
       cases h
       obtain ⟨h1,h2,h3⟩:=hp.one
       refine ⟨?_,rfl,rfl⟩
       simp only [ap,hx,hi,ho]
       rw [if_pos ⟨hsz,h1,h2⟩,←h3,ux]
      ·cases h
     ·cases h
    ·cases h
   ·cases h
  ·exact qq h
 case bin A8 x y=>
  simp only [ic] at h
  unfold Gy at h
  split at h
  all_goals first
   | exact qq h
   | skip
  all_goals
   split at h
   ·rename_i a b hx hy
    split at h
    ·cases h
     have:=hp.one
     unfold Yg at this
     refine ⟨?_,rfl,rfl⟩
     simp only [ap,hx,hy,this,uD]
    ·cases h
   ·cases h
 case slc sz x lo hi=>
  simp only [ic] at h
  unfold Gz at h
  split at h
  ·rename_i af hx
   split at h
   ·rename_i a b r' o ha hb
    cases h
    obtain ⟨h1,h2,h3,h4,h5⟩:=hp.one
    refine ⟨?_,rfl,rfl⟩
    rw [NJ hx,ha,hb]
    simp only
    rw [if_pos ⟨h1,h2,h3,h4⟩,h5]
   ·cases h
  ·cases h
 case load agg n x=>
  simp only [ic] at h
  unfold GA at h
  split at h
  ·split at h
   ·rename_i i NK f hx
    split at h
    ·rename_i sz af ho
     split at h
     ·split at h
      ·rename_i hle
       cases h
       have h1:=hp.one
       unfold Yh at h1
       refine ⟨?_,rfl,rfl⟩
       simp only [ap,hx,ho,h1,if_true]
       rw [if_pos hle]
      ·cases h
     ·split at h
      ·rename_i c hcell
       cases h
       have h1:=hp.one
       unfold Yh at h1
       refine ⟨?_,rfl,rfl⟩
       simp only [ap,hx,ho,h1,hcell,uD,uA,if_false]
      ·cases h
    ·cases h
   ·cases h
  ·exact qq h
 case store n x v=>
  simp only [ic] at h
  unfold GB at h
  split at h
  ·split at h
   ·rename_i i NK f hx
    split at h
    ·rename_i cs hcs
     split at h
     ·rename_i sz af ho
      split at h
      ·rename_i hle
       cases h
       obtain ⟨h1,h2⟩:=hp.one
       refine ⟨?_,rfl,rfl⟩
       simp only [ap,hx,hcs,ho,h1]
       rw [if_pos hle,h2]
      ·cases h
     ·cases h
    ·cases h
   ·cases h
  ·exact qq h
 case mks sz bI zero n=>
  simp only [ic] at h
  unfold GC at h
  split at h
  ·split at h
   ·rename_i k af o n' hx
    cases h
    obtain ⟨h1,h2,h3⟩:=hp.one
    refine ⟨?_,rfl,rfl⟩
    simp only [ap,hx]
    rw [if_pos h1,h2,h3]
   ·cases h
  ·exact qq h
 case app sz bI s x=>
  simp only [ic] at h
  unfold GD at h
  split at h
  ·split at h
   ·rename_i new hnew
    split at h
    ·rename_i hs
     cases h
     obtain ⟨h1,h2,h3,h4,h5⟩:=hp.one
     refine ⟨?_,rfl,rfl⟩
     simp only [ap,hs,kS,hnew,h1]
     simp only [List.nil_append] at h4
     subst h4
     simp only [ux] at h3 h5
     subst h5
     simp [h3]
    ·rename_i i old hs
     split at h
     ·rename_i sz' len ho
      split at h
      ·rename_i hsz
       cases h
       obtain ⟨h1,h2,h3,h4,h5⟩:=hp.one
       refine ⟨?_,rfl,rfl⟩
       simp only [ap,hs,kS,hnew,h1,ho]
       subst h4 h5
       simp [hsz,h2,h3]
      ·cases h
     ·cases h
    ·cases h
   ·cases h
  ·split at h
   ·rename_i new hnew
    split at h
    ·rename_i i off len hs
     split at h
     ·rename_i sz' old ho
      split at h
      ·rename_i hsz
       cases h
       obtain ⟨h1,h2,h3,h4,h5⟩:=hp.one
       refine ⟨?_,rfl,rfl⟩
       simp only [ap,hs,Wk,hnew,h1,ho]
       simp only [Bool.not_true,uA,if_false]
       rw [if_pos ⟨hsz.1,hsz.2,h2,h3⟩,h4,h5]
      ·cases h
     ·cases h
    ·cases h
   ·cases h
  ·exact qq h
 case look str zero ok m k=>
  simp only [ic] at h
  unfold GF at h
  split at h
  ·split at h
   ·rename_i i kk hm hk
    split at h
    ·rename_i es ho
     cases h
     obtain ⟨h1,h2⟩:=hp.one
     refine ⟨?_,rfl,rfl⟩
     simp only [ap,jf,hm,hk,ho,h1,if_true]
     rcases h2 with ⟨h3,h4⟩ | ⟨h3,h4,h5⟩
     ·rw [h3,h4];cases ok<;>rfl
     ·rw [h3,h4,h5];cases ok<;>rfl
    ·cases h
   ·rename_i y kk hm hk
    cases h
    obtain ⟨es,h0,h1,h2⟩:=hp.one
    refine ⟨?_,rfl,rfl⟩
    have h0':jf (zc st.heap) (.ak y)=some es:=by
     revert h0
     unfold jf
     cases y<;>exact fun h=>h
    simp only [ap,hm,h0',hk,h1,if_true]
    rcases h2 with ⟨h3,h4⟩ | ⟨h3,h4,h5⟩
    ·rw [h3,h4];cases ok<;>rfl
    ·rw [h3,h4,h5];cases ok<;>rfl
   ·cases h
  ·exact qq h
 case upd str m k v=>
  simp only [ic] at h
  unfold GG at h
  split at h
  ·split at h
   ·rename_i i kk hm hk
    split at h
    ·rename_i es ho
     cases h
     obtain ⟨h1,h2⟩:=hp.one
     refine ⟨?_,rfl,rfl⟩
     simp only [ap,hm,hk,ho,h1,if_true,h2]
    ·cases h
   ·cases h
  ·exact qq h
 case eqnm neg x y=>
  simp only [ic] at h
  unfold GH at h
  split at h
  ·split at h
   ·rename_i a hx hy
    cases h
    obtain ⟨b,h0,h1⟩:=hp.one
    refine ⟨?_,rfl,rfl⟩
    have h0':vD (zc st.heap) (.ak a)=some b:=by
     revert h0
     unfold vD
     cases a<;>exact fun h=>h
    simp only [ap,hy,hx,h0',h1]
   ·cases h
  ·exact qq h
 case copy sz d x=>
  simp only [ic] at h
  unfold GI at h
  split at h
  ·split at h
   ·rename_i new hnew
    split at h
    ·rename_i i len hd
     split at h
     ·rename_i sz' af ho
      split at h
      ·rename_i hsz
       cases h
       obtain ⟨h1,h2,h3,h4⟩:=hp.one
       refine ⟨?_,rfl,rfl⟩
       simp only [ap,B2,hd,ho,hnew]
       rw [if_pos ⟨hsz,h1,h2,h3⟩,h4]
      ·cases h
     ·cases h
    ·cases h
   ·cases h
  ·exact qq h
 case ixa len sz x i=>
  simp only [ic] at h
  unfold GJ at h
  split at h
  ·split at h
   ·rename_i cs hx
    split at h
    ·rename_i k n hi
     split at h
     ·rename_i c hc
      split at h
      ·rename_i hsz
       cases h
       obtain ⟨h1,h2,h3⟩:=hp.one
       refine ⟨?_,rfl,rfl⟩
       simp only [ap,hx,hi]
       rw [ux] at h3
       rw [if_pos ⟨hsz,h1,h2⟩,h3,hc]
       rfl
      ·cases h
     ·cases h
    ·cases h
   ·cases h
  ·exact qq h
 all_goals exact qq h
theorem NL {C:bY} {op:dc} {cB o':List fA} {D:List Nat} {st:St} {r:AV} {aQ:List (Nat×aI)} {rd:List Nat} {ps:List Prop} {d:Nat} {dst:Option Nat} {K:St→Prop} (h:ic C op cB D st=some (r,aQ,rd,o',ps,d)) (hp:dz ps) (hK:K (st.oC dst r aQ d)) :
  cw C dst K st op:=by
 cases hc:gp op
 ·obtain ⟨e,_,rfl⟩:=GK hc h hp
  cases op<;>first | (cases hc;done) | (simp only [cw];rw [e];exact hK)
 ·cases op<;>first | (cases hc;done) | skip
  rename_i f args
  simp only [ic] at h
  unfold DG at h
  split at h
  ·rename_i f' first bC hf
   simp only [cw,hf]
   split at h
   ·split at h
    ·rename_i dH hiv
     split at h
     ·rename_i hm;cases h;exact bU.pure (d:=5) hp.one hm hiv hK
     ·cases h
    ·cases h
   ·split at h
    ·rename_i cj ho
     split at h
     ·rename_i hm
      cases h
      cases hp with
      | cons h1 h2=>exact bU.ow (d:=5) h1 (QB (QC ho) h2.one) hm hK
     ·cases h
    ·cases h
   ·split at h
    ·rename_i cj ho
     split at h
     ·rename_i hm
      cases h
      exact bU.dA hp.one hm ho hK
     ·cases h
    ·cases h
   ·cases h
  ·cases h
theorem X8 {gd:Option (Nat×Bool)} {cB o:List fA} {D D':List Nat} {st bF:St} {b:Bool} {ps:List Prop} (h:Va gd cB D st=some (b,o,ps,D',bF)) (hp:dz ps):bF=st∧qc st.env gd=some b:=by
 unfold Va at h
 split at h
 ·cases h;exact ⟨rfl,rfl⟩
 ·rename_i t want
  split at h
  ·rename_i e;cases h;exact ⟨rfl,by simp only [qc,e]⟩
  ·rename_i x e
   have dI:zc st.env t=some (.ak (.bool x)):=by
    cases h1:zc st.env t with
    | none=>rw [h1] at e;cases e
    | some y=>rw [h1] at e;simp only [Option.getD_some] at e;rw [e]
   split at h
   ·split at h
    ·cases h;exact ⟨rfl,by simp only [qc,e];cases b<;>rfl⟩
    ·cases h;exact ⟨rfl,by simp only [qc,e];cases want<;>rfl⟩
   ·split at h
    ·cases h;have:=hp.one;subst this;exact ⟨by rw [QD dI],by simp only [qc,e];cases b<;>rfl⟩
    ·cases h;have:=hp.one;subst this;exact ⟨by rw [QD dI],by simp only [qc,e];cases want<;>rfl⟩
    ·cases h
  ·cases h
theorem NM {C:bY} {it:bh} {st:St} {b:Bool} {K:St→Prop} (hg:qc st.env it.guard=some b) (h1:b=true→cw C it.dst K st it.op) (h2:b=false→K (st.after it.dst .undef [])):JC C it K st:=by
 unfold JC
 cases hgd:it.guard with
 | none=>rw [hgd] at hg;simp only [qc,Option.some.injEq] at hg;exact h1 hg.symm
 | some p=>
  obtain ⟨t,want⟩:=p
  rw [hgd] at hg
  simp only [qc] at hg
  simp only [JB]
  split at hg
  ·rename_i x e
   rw [e]
   simp only [Option.some.injEq] at hg
   simp only
   rw [hg]
   cases b
   ·exact h2 rfl
   ·exact h1 rfl
  ·rename_i e
   rw [e]
   simp only [Option.some.injEq] at hg
   exact h2 hg.symm
  ·cases hg
theorem NN (ord:List Nat) (j:Nat) (W R:List (Nat×Nat)):jx ord j W R [] []=true:=by
 simp [jx]
end
theorem NO {α:Type} (f:α→List IV) (l:List α):A7 (ue f l) (l.length:Int):=by simp [A7]
theorem NP {α:Type} (f:α→List IV) {l:List α} {n:Int} {e:α} (h:zf l n=some e):Gq (ue f l) n (f e):=by
 obtain ⟨h1,h2,_⟩:=Y9 h
 exact ⟨h1,by simp [h2]⟩
theorem NQ {α:Type} (f:α→List IV) (sz:Nat) (hf:∀ x,(f x).length=sz) {l e:List α} {a b:Int} (h:Wp l a b=some e):Gr (ue f l) sz a b (ue f e):=by
 obtain ⟨h1,h2,h3,h4⟩:=Nv h
 exact ⟨h1,h2,by simpa using h3,by simp [hf],by rw [←h4];simp [List.map_take,List.map_drop]⟩
theorem GL {k:IntKind} {a b e:Int} (h:ye k a b=some e):Yg .rem (.int k a) (.int k b) (.int k e):=by
 obtain ⟨h1,h2⟩:=Nw h
 simp [Yg,h1,h2]
section
variable {α β:Type}
def zo (len:Nat) (n:Int):Option Nat:=if 0≤n∧n < (len:Int) then some n.toNat else none
theorem zp {len k:Nat} {n:Int} (h:zo len n=some k):XA n 0 len k:=by
 unfold zo at h;split at h
 ·rename_i hh;cases h;exact ⟨hh.1,hh.2,by omega⟩
 ·cases h
theorem zH (f:α→List IV) {l:List α} {k:Nat} {e:α} (h:l[k]?=some e):Yh (za f l) k (zk (f e)):=by
 unfold Yh za;rw [uk,h];rfl
theorem zG (f:α→List IV) {l:List α} {k:Nat} {e:α} (e':α) (h:l[k]?=some e):Gs (za f l) k (zk (f e)) (zk (f e')) (za f (l.set k e')):=by
 refine ⟨zH f h,?_⟩
 simp only [za,List.map_set]
theorem vl {l:List α} {k:Nat} {e:α} (e':α) (h:l[k]?=some e):(l.set k e')[k]?=some e':=by
 obtain ⟨hk,_⟩:=ua.1 h
 simp [hk]
def eA (bI:Nat) (n:Int):Option Nat:=if 0≤n∧n < 2 ^ 31∧n*bI≤140737488355328 then some n.toNat else none
theorem jZ (f:α→List IV) (z:α) {bI k:Nat} {n:Int} (h:eA bI n=some k):DB n bI (zk (f z)) k (za f (uc k z)):=by
 unfold eA at h;split at h
 ·rename_i hh;cases h;exact ⟨hh,rfl,by simp [za]⟩
 ·cases h
theorem NT (row:List AV) {bI k:Nat} {n:Int} (h:eA bI n=some k):DB n bI row k (uc k row):=by
 unfold eA at h;split at h
 ·rename_i hh;cases h;exact ⟨hh,rfl,rfl⟩
 ·cases h
def x8 (k:Nat) (d l:List α):Option (List α):=if k=d.length∧l.length=k then some l else none
theorem NU {k:Nat} {d l e:List α} (h:x8 k d l=some e):k=d.length∧l.length=k∧e=l:=by
 unfold x8 at h;split at h
 ·rename_i hh;cases h;exact ⟨hh.1,hh.2,rfl⟩
 ·cases h
theorem JF (f:α→List IV) (sz:Nat) (hf:∀ x,(f x).length=sz) {k:Nat} {d l e:List α} (h:x8 k d l=some e):Gt sz (za f d) (ue (ue AV.ak) (ue f l)) (za f e) k:=by
 obtain ⟨h1,h2,rfl⟩:=NU h
 refine ⟨by simpa [za] using h1,by simpa using h2,by simp [hf],?_⟩
 simp only [za,uE];congr 1
def zN (bI:Nat) (l m:List α):Option (List α):=if (l.length+m.length)*bI≤140737488355328 then some (l++m) else none
theorem qr (f:α→List IV) (sz bI:Nat) (hf:∀ x,(f x).length=sz) {l m e:List α} (h:zN bI l m=some e):DC sz bI (ue f l) (ue f m) (ue f e) l.length e.length:=by
 unfold zN at h;split at h
 ·rename_i hh;cases h;exact ⟨by simp [hf],by simp,by simpa using hh,by simp,by simp⟩
 ·cases h
end
def IV.i64 (n:Int):IV:=.int .i64 n
theorem wu (args:List AV) (cj:List (Nat×aI)) (dH:List IV) (h:aY (zJ (zc cj) 5) args=some dH):DF args cj dH:=h
def ZP (k k':IntKind) (a b:Int):Option Int:=if b < 0 then none else some (a.fdiv (2 ^ (min b.toNat k.bits)))
theorem GM {k k':IntKind} {a b e:Int} (h:ZP k k' a b=some e):Yg .shr (.int k a) (.int k' b) (.int k e):=by
 unfold ZP at h
 split at h
 ·cases h
 ·rename_i hb;cases h;simp [Yg,hb]
def zr {α β:Type} [DecidableEq α] (k:α):List (α×β)→Option β
 | []=>none
 | (k',v)::r=>if k=k' then some v else zr k r
def zO {α β:Type} [DecidableEq α] (k:α) (v:β):List (α×β)→List (α×β)
 | []=>[(k,v)]
 | (k',v')::r=>if k=k' then (k,v)::r else (k',v')::zO k v r
theorem QE {β:Type} (vf:β→IV) (k:Int) (es:List (Int×β)):xf (.int .i64 k) (zg IV.i64 vf es)=true:=by
 simp [xf,zg,IV.i64,qR]
theorem ko {β:Type} (vf:β→IV) (k:Int):∀ es:List (Int×β),zW (.int .i64 k) (zg IV.i64 vf es)=(zr k es).map fun v=>.ak (vf v)
 | []=>rfl
 | (k',v)::r=>by
  have ih:=ko vf k r
  simp only [zg,ug,zW,IV.i64,qR,if_true,zr] at ih ⊢
  by_cases e:k=k'
  ·subst e;simp
  ·simp only [beq_eq_false_iff_ne.2 e,if_neg e];exact ih
theorem JG {β:Type} (vf:β→IV) (k:Int) (x:β):∀ es:List (Int×β),qj (.int .i64 k) (.ak (vf x)) (zg IV.i64 vf es)=zg IV.i64 vf (zO k x es)
 | []=>rfl
 | (k',v)::r=>by
  have ih:=JG vf k x r
  simp only [zg,ug,qj,IV.i64,qR,if_true,zO] at ih ⊢
  by_cases e:k=k'
  ·subst e;simp
  ·simp only [beq_eq_false_iff_ne.2 e,if_neg e,ug];rw [ih]
theorem GN {β:Type} (vf:β→IV) (k:Int) (x:β) (es:List (Int×β)):DE false (.int .i64 k) (.ak (vf x)) (zg IV.i64 vf es) (zg IV.i64 vf (zO k x es)):=
 ⟨by rw [QE];rfl,JG vf k x es⟩
theorem Vb (a b:ByteArray):(a == b)=decide (a=b):=by
 obtain ⟨a⟩:=a
 obtain ⟨b⟩:=b
 rw [Bool.eq_iff_iff,decide_eq_true_iff]
 show (a == b)=true↔_
 simp
theorem Vc {β:Type} (vf:β→IV) (k:ByteArray) (es:List (ByteArray×β)):xf (.str k) (zg IV.str vf es)=true:=by
 simp [xf,zg,qR]
theorem Je {β:Type} (vf:β→IV) (k:ByteArray):∀ es:List (ByteArray×β),zW (.str k) (zg IV.str vf es)=(zr k es).map fun v=>.ak (vf v)
 | []=>rfl
 | (k',v)::r=>by
  have ih:=Je vf k r
  simp only [zg,ug,zW,qR,zr] at ih ⊢
  by_cases e:k=k'
  ·subst e;simp [Vb]
  ·simp only [Vb,decide_eq_false e,if_neg e];exact ih
theorem JH {β:Type} (vf:β→IV) (k:ByteArray) (x:β):∀ es:List (ByteArray×β),qj (.str k) (.ak (vf x)) (zg IV.str vf es)=zg IV.str vf (zO k x es)
 | []=>rfl
 | (k',v)::r=>by
  have ih:=JH vf k x r
  simp only [zg,ug,qj,qR,zO] at ih ⊢
  by_cases e:k=k'
  ·subst e;simp [Vb]
  ·simp only [Vb,decide_eq_false e,if_neg e,ug];rw [ih]
theorem wv {β:Type} (vf:β→IV) (z:β) (k:ByteArray) (es:List (ByteArray×β)):DD true (.ak (vf z)) (.str k) (zg IV.str vf es) (.ak (vf ((zr k es).getD z))) (zr k es).isSome:=by
 refine ⟨by rw [Vc];rfl,?_⟩
 rw [Je]
 cases zr k es with
 | none=>exact .inr ⟨rfl,rfl,rfl⟩
 | some v=>exact .inl ⟨rfl,rfl⟩
theorem vn {β:Type} (vf:β→IV) (k:ByteArray) (x:β) (es:List (ByteArray×β)):DE true (.str k) (.ak (vf x)) (zg IV.str vf es) (zg IV.str vf (zO k x es)):=
 ⟨by rw [Vc];rfl,JH vf k x es⟩
theorem Vd {α:Type} (f:α→List IV) (h:Nat→Option aI) (d:Nat):∀ l:List α,aY (fun row:List AV=>aY (zJ h (d+1)) row) (za f l)=some (l.map f)
 | []=>rfl
 | x::l=>by
  have ih:=Vd f h d l
  have h1:aY (zJ h (d+1)) (zk (f x))=some (f x):=by
   generalize f x=r
   induction r with
   | nil=>rfl
   | cons a r ih=>simp only [zk,ug,aY,zJ] at ih ⊢; rw [ih]
  simp only [za,ug,aY] at ih ⊢
  rw [h1];simp only;rw [ih]
theorem GO {α:Type} (f:α→List IV) (h:Nat→Option aI) (d id sz:Nat) (l:List α) (ho:h id=some (.af sz (za f l))):zJ h (d+2) (.Zag id 0 l.length)=some (.slice (l.map f)):=by
 show (match h id with
  | some (.af _ af)=>if 0+l.length≤af.length then (aY (fun row:List AV=>aY (zJ h (d+1)) row) ((af.drop 0).take l.length)).map IV.slice else none
  | _=>none)=_
 rw [ho]
 simp only [List.drop_zero]
 rw [if_pos (by simp [za]),List.take_of_length_le (by simp [za]),Vd f h d l];rfl
end
def Cd (m:Nat) (ov env:List (Nat×AV)):List Nat→Option (List (Nat×AV)×List Prop)
 | []=>some ([],[])
 | k::ks=>match zc env k with
  | none=>none
  | some a=>match Cd m ov env ks with
   | none=>none
   | some (l,ps)=>match zc ov k with
    | some b=>match zS m b with
     | true=>some ((k,b)::l,(a=b)::ps)
     | false=>none
    | none=>match zS m a with
     | true=>some ((k,a)::l,ps)
     | false=>none
def Yi (m:Nat):aI→Bool
 | .af _ af=>af.all fun row=>row.all (zS m)
 | .bf _ _=>true
 | .map es=>es.all fun e=>zS m e.2
 | .dead=>true
 | .lp _ _ _ _=>true
theorem kz {m:Nat} {o:aI} (h:Yi m o=true):zY m o:=by
 cases o<;>simp only [Yi,zY] at h ⊢
 ·intro row hr x hx;exact uh.1 (uh.1 h row hr) x hx
 ·intro e he;exact uh.1 h e he
def Ce (m:Nat) (ov heap:List (Nat×aI)):List (Nat×Bool)→Option (List (Nat×aI)×List Prop)
 | []=>some ([],[])
 | (k,f)::ks=>match zc heap k with
  | none=>none
  | some a=>match Ce m ov heap ks with
   | none=>none
   | some (l,ps)=>match decide (k < m) with
    | false=>none
    | true=>match zc ov k with
     | some b=>match f with
      | true=>match Yi m b with
       | true=>some ((k,b)::l,(a=b)::ps)
       | false=>none
      | false=>some ((k,b)::l,(a=b)::zY m b::ps)
     | none=>match f with
      | true=>match Yi m a with
       | true=>some ((k,a)::l,ps)
       | false=>none
      | false=>some ((k,a)::l,zY m a::ps)
def GP (ks:List Nat) (hs:List (Nat×Bool)) (n:Nat) (ov:List (Nat×AV)) (DH:List (Nat×aI)) (st:St):Option (St×List Prop):=match decide (n≤st.next) with
 | false=>none
 | true=>match Cd n ov st.env ks,Ce n DH st.heap hs with
  | some (e,ps),some (h,qs)=>some (⟨e,h,n⟩,ps++qs)
  | _,_=>none
theorem JJ {m:Nat} {ov env:List (Nat×AV)}:∀ {ks:List Nat} {l:List (Nat×AV)} {ps:List Prop},Cd m ov env ks=some (l,ps)→dz ps→∀ p∈l,zc env p.1=some p.2∧zS m p.2=true
 | [],l,ps,h,hp=>by cases h;intro p hp;cases hp
 | k::ks,l,ps,h,hp=>by
  simp only [Cd] at h
  split at h
  ·cases h
  ·rename_i a ha
   split at h
   ·cases h
   ·rename_i l' ps' hr
    split at h
    ·split at h
     ·rename_i b hb sU
      cases h
      cases hp with
      | cons h1 h2=>
       intro p hp
       rcases ub.1 hp with rfl | hp
       ·exact ⟨by rw [ha,h1],sU⟩
       ·exact JJ hr h2 p hp
     ·cases h
    ·split at h
     ·rename_i sU
      cases h
      intro p oD
      rcases ub.1 oD with rfl | oD
      ·exact ⟨ha,sU⟩
      ·exact JJ hr hp p oD
     ·cases h
theorem vL {m:Nat} {ov heap:List (Nat×aI)}:∀ {ks:List (Nat×Bool)} {l:List (Nat×aI)} {ps:List Prop},Ce m ov heap ks=some (l,ps)→dz ps→∀ p∈l,zc heap p.1=some p.2∧p.1 < m∧zY m p.2
 | [],l,ps,h,hp=>by cases h;intro p hp;cases hp
 | (k,f)::ks,l,ps,h,hp=>by
  simp only [Ce] at h
  split at h
  ·cases h
  ·rename_i a ha
   split at h
   ·cases h
   ·rename_i l' ps' hr
    split at h
    ·cases h
    ·rename_i hk
     have hk:=of_decide_eq_true hk
     split at h
     ·rename_i b hb
      split at h
      ·split at h
       ·rename_i sU
        cases h
        cases hp with
        | cons h1 h2=>
         intro p hp
         rcases ub.1 hp with rfl | hp
         ·exact ⟨by rw [ha,h1],hk,kz sU⟩
         ·exact vL hr h2 p hp
       ·cases h
      ·cases h
       cases hp with
       | cons h1 h2=>
        cases h2 with
        | cons h3 h4=>
         intro p hp
         rcases ub.1 hp with rfl | hp
         ·exact ⟨by rw [ha,h1],hk,h3⟩
         ·exact vL hr h4 p hp
     ·split at h
      ·split at h
       ·rename_i sU
        cases h
        intro p oD
        rcases ub.1 oD with rfl | oD
        ·exact ⟨ha,hk,kz sU⟩
        ·exact vL hr hp p oD
       ·cases h
      ·cases h
       cases hp with
       | cons h3 h4=>
        intro p oD
        rcases ub.1 oD with rfl | oD
        ·exact ⟨ha,hk,h3⟩
        ·exact vL hr h4 p oD
theorem GQ {st bF:St} (ks:List Nat) (hs:List (Nat×Bool)) (n:Nat) (ov:List (Nat×AV)) (DH:List (Nat×aI)) {ps:List Prop} (hp:dz ps) (h:GP ks hs n ov DH st=some (bF,ps)):ct st bF:=by
 unfold GP at h
 split at h
 ·cases h
 ·rename_i hn
  split at h
  ·rename_i e qs hh rs he NV
   cases h
   obtain ⟨p1,p2⟩:=hp.app
   exact Ya (of_decide_eq_true hn) (JJ he p1) (vL NV p2)
  ·cases h
theorem bU.cE {C:Ctx} {f:Nat} {args:List AV} {heap:List (Nat×aI)} {next:Nat} {K K':AV→List (Nat×aI)→Nat→Prop} (hc:bU C f args heap next K)
  (hk:∀ r h n,K r h n→∃ r' h' n',K' r' h' n'∧next≤n'∧ct ⟨[(0,r)],h,n⟩ ⟨[(0,r')],h',n'⟩):bU C f args heap next K':=by
 refine ⟨hc.1,fun g w vs R hv=>(hc.2 g w vs R hv).mono ?_⟩
 rintro e w' ⟨v,r,heap',next',g',rfl,hK,E,R',hx⟩
 obtain ⟨r',h',n',hK',hn,hw⟩:=hk r heap' next' hK
 let a:Act:={tmps := #[v],defers:=[]}
 have hrel:Rel C ⟨1,0⟩ g' ⟨[(0,r)],heap',next'⟩ a w':=⟨⟨rfl,Marks.nil _ (uF _),fun t x hx'=>by
  simp only [zc] at hx'
  split at hx'
  ·rename_i e;subst e;cases hx';exact hx
  ·cases hx'⟩,R'⟩
 obtain ⟨g2,R2,hE⟩:=hw C ⟨1,0⟩ g' a w' hrel
 exact ⟨v,r',h',n',g2,rfl,hK',hE g ⟨[],heap,next⟩ w hn E,R2.heap,R2.env.slot 0 r' rfl⟩
def NW (rs:List dR) (r:AV) (heap:List (Nat×aI)) (n:Nat):Exit→St→Prop
 | .ret,st | .normal,st=>∃ x,jI rs st=some x∧ct ⟨[(0,x)],st.heap,st.next⟩ ⟨[(0,r)],heap,n⟩
 | _,_=>False
def XB (m:Nat) (heap:List (Nat×aI)):Bool:=(List.range m).all fun i=>(zc heap i).isSome
theorem GR {m:Nat} {heap:List (Nat×aI)} (h:XB m heap=true):∀ i,i < m→(zc heap i).isSome=true:=fun i hi=>by
 simp only [XB,uh,List.mem_range] at h
 exact h i hi
def zi:Nat:=1000000
def vo (b:Nat) (L:List Int):List AV:=[bif uo b 2000000 then .aX b (L.map zb) else .ak (.slice (L.map zb))]
def qA:Nat→List (List Int)→List (List AV)
 | _,[]=>[]
 | b,L::r=>vo b L::qA (b+1) r
theorem yU:∀ (Ls:List (List Int)) (b k:Nat),(qA b Ls)[k]?=(Ls[k]?).map (vo (b+k))
 | [],b,k=>by simp [qA]
 | L::r,b,0=>by simp [qA]
 | L::r,b,k+1=>by
  simp only [qA,uv]
  rw [yU r (b+1) k,show b+1+k=b+(k+1) by omega]
theorem ww {b:Nat} (h:b < 2000000) (L:List Int):vo b L=[.aX b (L.map zb)]:=by
 have:uo b 2000000=true:=by simpa [un] using h
 simp [vo,this]
theorem yH {b:Nat} (h:¬ b < 2000000) (L:List Int):vo b L=[.ak (.slice (L.map zb))]:=by
 have:uo b 2000000=false:=by
  cases e:uo b 2000000 with
  | false=>rfl
  | true=>exact absurd (by simpa [un] using e) h
 simp [vo,this]
theorem K0 {nx b:Nat} (h2:2000000≤nx) (L:List Int):∀ x∈vo b L,zS nx x=true:=by
 intro x hx
 by_cases hb:b < 2000000
 ·rw [ww hb] at hx
  have:x=.aX b (L.map zb):=by simpa using hx
  subst this
  simp only [zS,xI,zP,decide_eq_true_eq];omega
 ·rw [yH hb] at hx
  have:x=.ak (.slice (L.map zb)):=by simpa using hx
  subst this;rfl
theorem NX {nx:Nat} (h2:2000000≤nx) (Ls:List (List Int)) (b:Nat):zY nx (.af 1 (qA b Ls)):=by
 intro row hrow x hx
 obtain ⟨k,hk⟩:=List.mem_iff_getElem?.1 hrow
 rw [yU] at hk
 obtain ⟨L,_,rfl⟩:=ul.1 hk
 exact K0 h2 L x hx
def j6 (b:Nat) (L:List Int):AV:=bif uo b 2000000 then .aX b (L.map zb) else .ak (.slice (L.map zb))
def zD:Nat→List (Int×List Int)→List (IV×AV)
 | _,[]=>[]
 | b,(k,L)::r=>(.int .i64 k,j6 b L)::zD (b+1) r
theorem X9 {nx:Nat} (h2:2000000≤nx):∀ (ms:List (Int×List Int)) (b:Nat),∀ e∈zD b ms,zS nx e.2=true
 | [],b,e,he=>by cases he
 | (k,L)::r,b,e,he=>by
  rcases ub.1 he with rfl | he
  ·simp only [j6]
   cases hb:uo b 2000000 with
   | true=>
    have hb:b < 2000000:=by simpa [un] using hb
    simp only [bL,zS,xI,zP,decide_eq_true_eq];omega
   | false=>rfl
  ·exact X9 h2 r (b+1) e he
inductive cx (m:Nat):List (Nat×aI)→Prop where
 | nil:cx m []
 | exp {k:Nat} {o:aI} {r:List (Nat×aI)} (hk:decide (k < m)=true) (ho:Yi m o=true) (t:cx m r):cx m ((k,o)::r)
 | af {k sz:Nat} {α:Type} {f:α→List IV} {l:List α} {r:List (Nat×aI)} (hk:decide (k < m)=true) (t:cx m r):cx m ((k,.af sz (za f l))::r)
 | aU {k:Nat} {α β:Type} {kf:α→IV} {vf:β→IV} {es:List (α×β)} {r:List (Nat×aI)} (hk:decide (k < m)=true) (t:cx m r):cx m ((k,.map (zg kf vf es))::r)
 | nest {k:Nat} {Ls:List (List Int)} {r:List (Nat×aI)} (hk:decide (k < m)=true) (hn:uG 2000000 m=true) (t:cx m r):cx m ((k,.af 1 (qA zi Ls))::r)
 | lS {k:Nat} {ms:List (Int×List Int)} {r:List (Nat×aI)} (hk:decide (k < m)=true) (hn:uG 2000000 m=true) (t:cx m r):cx m ((k,.map (zD zi ms))::r)
theorem cx.all {m:Nat} {l:List (Nat×aI)} (h:cx m l):∀ p∈l,p.1 < m∧zY m p.2:=by
 induction h with
 | nil=>intro p hp;cases hp
 | exp hk ho t ih=>
  intro p hp
  rcases ub.1 hp with rfl | hp
  ·exact ⟨of_decide_eq_true hk,kz ho⟩
  ·exact ih p hp
 | af hk t ih=>
  intro p hp
  rcases ub.1 hp with rfl | hp
  ·exact ⟨of_decide_eq_true hk,ZO _ _ _ _⟩
  ·exact ih p hp
 | aU hk t ih=>
  intro p hp
  rcases ub.1 hp with rfl | hp
  ·exact ⟨of_decide_eq_true hk,ND _ _ _ _⟩
  ·exact ih p hp
 | nest hk hn t ih=>
  intro p hp
  rcases ub.1 hp with rfl | hp
  ·exact ⟨of_decide_eq_true hk,NX (um hn) _ _⟩
  ·exact ih p hp
 | lS hk hn t ih=>
  intro p hp
  rcases ub.1 hp with rfl | hp
  ·exact ⟨of_decide_eq_true hk,X9 (um hn) _ _⟩
  ·exact ih p hp
theorem dD.start {C:Ctx} {f:Nat} {F:dM} (hF:qM C f=some F.erase) {args:List AV} {heap bZ:List (Nat×aI)} {m d:Nat} {r:AV} (hn:args.length≤F.nt) (b0:cx m heap) (b1:cx (m+d) bZ) (hka:args.all (zS m)=true) (NY:zS (m+d) r=true) (k0:XB m heap=true) (k1:XB m bZ=true)
  (h:∀ B,dF C.plain ⟨F.nt,B⟩ F.body (NW F.results r bZ (m+d)) ⟨ju 0 args,heap,m⟩):dD C f args heap m r bZ d where
 dA:=by
  have h1:bU C f args heap m fun x hp n=>ct ⟨[(0,x)],hp,n⟩ ⟨[(0,r)],bZ,m+d⟩:=bU.enter hF hn (fun B=>jY (fun e st hk=>by
   cases e with
   | ret=>obtain ⟨x,h1,h2⟩:=hk;exact ⟨.inl rfl,x,h1,h2⟩
   | normal=>obtain ⟨x,h1,h2⟩:=hk;exact ⟨.inr rfl,x,h1,h2⟩
   | _=>exact hk.elim) (h B))
  exact h1.cE fun x hp n hw=>⟨r,bZ,m+d,⟨rfl,rfl,rfl⟩,by omega,hw⟩
 k0:=b0.all
 ka:=fun x hx=>uh.1 hka x hx
 k1:=b1.all
 kr:=NY
 all:=GR k1
 A3:=GR k0
section
section
variable {C:Ctx} {g g':Gh} {h h':Nat→Option aI} {N N':Nat→Prop} {w w':World} {id:Nat}
theorem Kc {st:St} {t:Nat} {x y:AV} {aQ:List (Nat×aI)} (ht:zc st.env t=some x)
  (hg:∀ (C:Ctx) (g:Gh) (w:World) (v:Value),RH C g (zc st.heap) (· < st.next) w→RV C g (zc st.heap) (· < st.next) w x v→Good C g (zc st.heap) (· < st.next) w st.next y aQ v w) :
  ct st ⟨zs st.env t y,zl aQ st.heap,st.next+1⟩:=by
 intro C nt g a w R
 obtain ⟨g',E,H,hv⟩:=hg C g w _ R.heap (R.env.slot t x ht)
 rw [xc] at E H hv
 rw [←jQ] at E H hv
 refine ⟨g',⟨⟨R.env.size,R.env.defers.eS E,fun t' z hz => ?_⟩,H⟩,fun g0 cL w0 hm E0=>E0.trans E⟩
 rw [ze] at hz
 split at hz
 ·rename_i e;subst e;cases hz;exact hv
 ·exact (R.env.slot t' z hz).mono E
theorem NZ {st:St} {t:Nat} (sz:Nat) (ht:zc st.env t=some .nil):ct st ⟨zs st.env t (.Zag st.next 0 0),zl [(st.next,.af sz [])] st.heap,st.next+1⟩:=
 Kc ht fun C g w v R hv=>by rw [xP hv];exact Y0 R (ui _) sz
theorem Kd {st:St} {t i len sz:Nat} {af:List (List AV)} (ht:zc st.env t=some (.Zag i 0 len)) (ho:zc st.heap i=some (.af sz af)) (hl:len=af.length) :
  ct st ⟨zs st.env t (.Zag st.next 0 len),zl [(st.next,.af sz af),(i,.dead)] st.heap,st.next+1⟩:=
 Kc ht fun C g w v R hv=>FR R (ui _) hv ho hl
theorem N3 (st:St) (n:Nat) (hn:st.next≤n):ct st ⟨st.env,st.heap,n⟩:=by
 intro C nt g a w R
 have E:b9 g (zc st.heap) (· < st.next) w g (zc st.heap) (· < n) w:={b9.refl g (zc st.heap) (· < st.next) w with
  next:=fun i hi=>ur hi hn}
 refine ⟨g,⟨⟨R.env.size,R.env.defers,fun t x hx=>(R.env.slot t x hx).mono E⟩,⟨R.heap.inj,fun i b hb=>⟨(R.heap.lt i b hb).1,ur (R.heap.lt i b hb).2 hn⟩,fun i o ho=>ur (R.heap.key i o ho) hn,fun i b o hb ho=>(R.heap.obj i b o hb ho).keep E rfl rfl,R.heap.cP,R.heap.ed,R.heap.fix.eS E⟩⟩,fun g0 cL w0 hm E0=>E0.trans E⟩
theorem ct.trans {s1 s2 s3:St} (h1:ct s1 s2) (h2:ct s2 s3) (hn:s3.next≤s2.next∨True):∀ (C:Ctx) (nt:Fr) (g:Gh) (a:Act) (w:World),Rel C nt g s1 a w→∃ g',Rel C nt g' s3 a w∧∀ g0 cL w0,cL.next≤s2.next→cL.next≤s3.next→dN g0 cL w0 g s1 w→dN g0 cL w0 g' s3 w:=by
 intro C nt g a w R
 obtain ⟨g1,R1,e1⟩:=h1 C nt g a w R
 obtain ⟨g2,R2,e2⟩:=h2 C nt g1 a w R1
 exact ⟨g2,R2,fun g0 cL w0 a1 a2 E=>e2 g0 cL w0 a2 (e1 g0 cL w0 a1 E)⟩
theorem bU.oF {f:Nat} {rest:List AV} {heap:List (Nat×aI)} {next:Nat} {K:AV→List (Nat×aI)→Nat→Prop} (h1:bU C f (.nil::rest) heap next K) (h2:bU C f (.cA::rest) heap next K):bU C f (.ak (.slice [])::rest) heap next K:=by
 refine ⟨h1.1,fun g w vs R hv => ?_⟩
 obtain ⟨hl,hv⟩:=hv
 cases vs with
 | nil=>simp at hl
 | cons v vs=>
  have nG:=hv 0 _ v rfl rfl
  have key:∀ x,RV C g (zc heap) (· < next) w x v→nH C g (zc heap) (· < next) w (x::rest) (v::vs):=fun x hx=>⟨by simpa using hl,fun j y u hj hu=>by
   cases j with
   | zero=>simp at hj hu;subst hj hu;exact hx
   | succ j=>exact hv (j+1) y u hj hu⟩
  cases nG with
  | ak _ _ hr=>
   cases hr with
   | nil=>exact h1.2 g w _ R (key _ .nil)
   | empty a cap=>exact h2.2 g w _ R (key _ (.cA a cap))
   | slice _ b off cap sz cv hcap=>exact h2.2 g w _ R (key _ (.cA ⟨b,off,none⟩ cap))
def xW (sz bI:Nat) (zero:List AV):dM:=⟨8,[.tmp 2],(
 .seq (.region false [] [⟨some 2,.fP (.c (.nil)),none⟩] (some [0])) (
  .seq (.seq (.region false [] [⟨some 3,.fP (.t 0),none⟩,⟨some 4,.fc false (.t 3) (.c (.nil)),none⟩] (some [0,4])) (
    .cond (.t 4) (.seq (.region false [] [⟨some 2,.fP (.c (.nil)),none⟩] (some [2])) (.ret)) (.skip))) (
   .seq (.region false [] [⟨some 5,.dy sz zero 0 [],none⟩,⟨some 6,.fP (.t 0),none⟩,⟨some 7,.app sz bI (.t 5) (.t 6),none⟩,⟨some 2,.fP (.t 7),none⟩] (some [2])) (.ret))))⟩
def jl {α:Type} (bI:Nat) (l:List α):Option (List α):=if l.length*bI≤140737488355328 then some l else none
theorem ig {α:Type} {n sz bI:Nat} {zero:List AV} (hF:qM C n=some (xW sz bI zero).erase) (f:α→List IV) (hf:∀ x,(f x).length=sz) {l e:List α} (h:jl bI l=some e) :
  dD C n [.ak (.slice (ue f l))] [] 0 (.Zag 7 0 e.length) [(7,.af sz (za f e))] 8:=by
 unfold jl at h
 split at h
 case isFalse=>cases h
 rename_i hb
 cases h
 refine ⟨?_,by simp,by simp [zS,xI,zP],?_,by simp [zS,xI,zP],by simp,by simp⟩
 ·unfold Dy
  cases l with
  | nil=>
   refine bU.oF ?_ ?_
   ·have h1:bU C n [.nil] [] 0 fun r hp nx=>r=.nil∧hp=[]∧nx=4:=by
     refine bU.run hF (by simp [xW]) (fun B => ?_)
     simp [xW]
    refine (h1.cE (K':=fun r hp nx=>r=.nil∧hp=[]∧nx=7) ?_).cE ?_
    ·rintro r hp nx ⟨rfl,rfl,rfl⟩
     exact ⟨_,_,_,⟨rfl,rfl,rfl⟩,by omega,N3 _ 7 (by simp)⟩
    ·rintro r hp nx ⟨rfl,rfl,rfl⟩
     exact ⟨_,_,_,⟨rfl,rfl,rfl⟩,by omega,NZ (t:=0) sz rfl⟩
   ·have h1:bU C n [.cA] [] 0 fun r hp nx=>r=.Zag 5 0 0∧hp=[(3,.dead),(5,.af sz [])]∧nx=7:=by
     refine bU.run hF (by simp [xW]) (fun B => ?_)
     simp [xW,Wk]
    refine (h1.cE (K':=fun r hp nx=>r=.Zag 7 0 0∧hp=[(3,.dead),(5,.dead),(7,.af sz [])]∧nx=8) ?_).cE ?_
    ·rintro r hp nx ⟨rfl,rfl,rfl⟩
     exact ⟨_,_,_,⟨rfl,rfl,rfl⟩,by omega,Kd (t:=0) (i:=5) (len:=0) (sz:=sz) (af:=[]) rfl rfl rfl⟩
    ·rintro r hp nx ⟨rfl,rfl,rfl⟩
     exact ⟨_,_,_,⟨rfl,rfl,rfl⟩,by omega,GQ [0] [(7,true)] 8 [] [] dz.nil (by kernel_rfl)⟩
  | cons x xs=>
   have h1:bU C n [.ak (.slice (ue f (x::xs)))] [] 0 fun r hp nx=>r=.Zag 5 0 (x::xs).length∧hp=[(3,.dead),(5,.af sz (za f (x::xs)))]∧nx=7:=by
    refine bU.run hF (by simp [xW]) (fun B => ?_)
    simp [xW,Wk,hf]
    have hb':(xs.length+1)*bI≤140737488355328:=by simpa using hb
    rw [if_pos hb']
    simp [za,zk,Function.comp_def]
   refine (h1.cE (K':=fun r hp nx=>r=.Zag 7 0 (x::xs).length∧hp=[(3,.dead),(5,.dead),(7,.af sz (za f (x::xs)))]∧nx=8) ?_).cE ?_
   ·rintro r hp nx ⟨rfl,rfl,rfl⟩
    exact ⟨_,_,_,⟨rfl,rfl,rfl⟩,by omega,Kd (t:=0) (i:=5) (len:=(x::xs).length) (sz:=sz) (af:=za f (x::xs)) rfl rfl (by simp [za])⟩
   ·rintro r hp nx ⟨rfl,rfl,rfl⟩
    exact ⟨_,_,_,⟨rfl,rfl,rfl⟩,by omega,GQ [0] [(7,false)] 8 [] [] (dz.cons (ZO 8 sz f (x::xs)) .nil) (by kernel_rfl)⟩
 ·intro p hp
  simp only [List.mem_singleton] at hp
  subst hp
  exact ⟨by omega,ZO _ _ _ _⟩
end
end
section
theorem dz.mem {ps:List Prop} (h:dz ps) {p:Prop} (hp:p∈ps):p:=by
 induction h with
 | nil=>cases hp
 | cons h t ih=>
  rcases ub.1 hp with e | e
  ·rw [e];exact h
  ·exact ih e
theorem dz.sub {ps qs:List Prop} (h:dz ps) (hs:∀ p∈qs,p∈ps):dz qs:=by
 induction qs with
 | nil=>exact .nil
 | cons q qs ih=>exact .cons (h.mem (hs q (by simp))) (ih fun p hp=>hs p (by simp [hp]))
theorem Ke {α:Type} (f:α→List IV) (l:List α):(ue f l).map (fun r=>r.map AV.ak)=za f l:=by
 simp only [za,zk,uE];rfl
inductive lq:AV→AV→Prop where
 | refl (x:AV):lq x x
 | nil:lq .nil (.ak (.slice []))
 | bf (id:Nat) (af:List (List IV)):lq (.aX id af) (.ak (.slice af))
inductive ff:List AV→List AV→Prop where
 | nil:ff [] []
 | cons {x y:AV} {r s:List AV} (h:lq x y) (t:ff r s):ff (x::r) (y::s)
theorem ff.len {r s:List AV} (h:ff r s):r.length=s.length:=by
 induction h with
 | nil=>rfl
 | cons h t ih=>simp [ih]
theorem ff.get {r s:List AV} (h:ff r s):∀ (j:Nat) (y:AV),s[j]?=some y→∃ x,r[j]?=some x∧lq x y:=by
 induction h with
 | nil=>intro j y hj;simp at hj
 | cons h t ih=>
  intro j y hj
  cases j with
  | zero=>simp at hj;subst hj;exact ⟨_,by simp,h⟩
  | succ j=>simpa using ih j y (by simpa using hj)
inductive er:List (List AV)→List (List AV)→Prop where
 | nil:er [] []
 | cons {r s:List AV} {l m:List (List AV)} (h:ff r s) (t:er l m):er (r::l) (s::m)
theorem er.len {l m:List (List AV)} (h:er l m):l.length=m.length:=by
 induction h with
 | nil=>rfl
 | cons h t ih=>simp [ih]
theorem er.get {l m:List (List AV)} (h:er l m):∀ (j:Nat) (s:List AV),m[j]?=some s→∃ r,l[j]?=some r∧ff r s:=by
 induction h with
 | nil=>intro j y hj;simp at hj
 | cons h t ih=>
  intro j y hj
  cases j with
  | zero=>simp at hj;subst hj;exact ⟨_,by simp,h⟩
  | succ j=>simpa using ih j y (by simpa using hj)
theorem N4 {st:St} (id sz:Nat) (l m:List (List AV)) (ho:zc st.heap id=some (.af sz l)) (hle:er l m):ct st ⟨st.env,zs st.heap id (.af sz m),st.next⟩:=by
 intro C nt g a w R
 obtain ⟨RE,R⟩:=R
 have hh:∀ i o,zc (zs st.heap id (.af sz m)) i=some o→(i=id∧o=.af sz m)∨(i≠id∧zc st.heap i=some o):=fun i o h=>by
  rw [ze] at h
  split at h
  ·rename_i e;exact .inl ⟨e.symm,by cases h;rfl⟩
  ·rename_i e;exact .inr ⟨fun e2=>e e2.symm,h⟩
 have E:b9 g (zc st.heap) (· < st.next) w g (zc (zs st.heap id (.af sz m))) (· < st.next) w:={b9.refl g (zc st.heap) (· < st.next) w with
  ep:=fun i b hb _ _ _ _=>.inl hb
  cI:=fun i hb _ _ _ _=>.inl hb
  af:=fun i _ s r h1=>by
   rcases hh i _ h1 with ⟨e1,e2⟩ | ⟨_,e2⟩
   ·subst e1;cases e2;exact ⟨_,ho,hle.len⟩
   ·exact ⟨r,e2,rfl⟩
  cV:=fun i _ s l h1=>by
   rcases hh i _ h1 with ⟨_,e2⟩ | ⟨_,e2⟩
   ·cases e2
   ·exact ⟨l,e2,ud _⟩
  maps:=fun i _ es h1=>by
   rcases hh i _ h1 with ⟨_,e2⟩ | ⟨_,e2⟩
   ·cases e2
   ·exact ⟨es,e2⟩
  fH:=fun i _ ll RR s pe h1=>by
   rcases hh i _ h1 with ⟨_,e2⟩ | ⟨_,e2⟩
   ·cases e2
   ·exact ⟨s,pe,e2⟩}
 refine ⟨g,⟨⟨RE.size,RE.defers,fun t x hx=>(RE.slot t x hx).mono E⟩,⟨R.inj,R.lt,fun i o h1 => ?_,fun i b o h1 h2 => ?_,fun i s l h1 h2 => ?_,R.ed,R.fix.eS E⟩⟩,fun g0 cL w0 hm E0=>E0.trans E⟩
 ·rcases hh i o h1 with ⟨e1,_⟩ | ⟨_,e2⟩
  ·subst e1;exact R.key _ _ ho
  ·exact R.key i o e2
 ·rcases hh i o h2 with ⟨e1,e2⟩ | ⟨_,e2⟩
  ·subst e1 e2
   have hro:=R.obj _ b _ h1 ho
   simp only [dx] at hro ⊢
   obtain ⟨a1,c,e,a2,a3,a4⟩:=hro
   refine ⟨a1,c,e,a2,fun i r hi => ?_,fun i r j x hi hj => ?_⟩
   ·obtain ⟨q,q1,q2⟩:=hle.get i r hi
    rw [←q2.len];exact a3 i q q1
   ·obtain ⟨q,q1,q2⟩:=hle.get i r hi
    obtain ⟨y,q3,q4⟩:=q2.get j x hj
    obtain ⟨cv,b1,b2,b3⟩:=a4 i q j y q1 q3
    refine ⟨cv,b1,b2,?_⟩
    cases q4 with
    | refl=>exact b3.mono E
    | nil=>rw [xP b3];exact .ak _ _ .nil
    | bf=>cases b3 with | aX _ _ _ hr _ _=>exact .ak _ _ (hr.mono E.cr E.cell)
  ·exact (R.obj i b o h1 e2).keep E rfl rfl
 ·rcases hh i _ h1 with ⟨_,e2⟩ | ⟨_,e2⟩
  ·cases e2
  ·exact R.cP i s l e2 h2
open Classical in
noncomputable def DI {α:Type} (f:Nat→Option α):Option α:=if h:∃ r,∃ k,∀ k',k≤k'→f k'=some r then some h.choose else none
section
variable {h:Nat→Option aI} {d:Nat}
theorem xa:aY (zJ h d) []=some []:=rfl
theorem zM {x:AV} {y:IV} {xs:List AV} {ys:List IV} (h1:zJ h d x=some y) (h2:aY (zJ h d) xs=some ys):aY (zJ h d) (x::xs)=some (y::ys):=by
 simp only [aY];rw [h1];simp only;rw [h2]
theorem q7 (y:IV):zJ h (d+1) (.ak y)=some y:=rfl
theorem QF {cs:List AV} {ys:List IV} (h1:aY (zJ h d) cs=some ys):zJ h (d+1) (.agg cs)=some (.agg ys):=by
 simp only [zJ];rw [h1];rfl
theorem DJ {cs:List AV} {ys:List IV} (h1:aY (zJ h d) cs=some ys):zJ h (d+1) (.tuple cs)=some (.tuple ys):=by
 simp only [zJ];rw [h1];rfl
theorem Cf {α:Type} (f:α→List IV) (id sz:Nat) (l:List α) (ho:h id=some (.af sz (za f l))):zJ h (d+2) (.Zag id 0 l.length)=some (.slice (ue f l)):=GO f h d id sz l ho
end
inductive o9:AV→AV→Prop where
 | refl (x:AV):o9 x x
 | nil:o9 .nil (.ak (.slice []))
 | bf (id:Nat) (af:List (List IV)):o9 (.aX id af) (.ak (.slice af))
 | agg {r s:List AV} (h:ff r s):o9 (.agg r) (.agg s)
 | tuple {r s:List AV} (h:ff r s):o9 (.tuple r) (.tuple s)
theorem lq.rv {C:Ctx} {g:Gh} {h:Nat→Option aI} {N:Nat→Prop} {w:World} {x y:AV} {v:Value} (hl:lq x y) (hv:RV C g h N w x v):RV C g h N w y v:=by
 cases hl with
 | refl=>exact hv
 | nil=>rw [xP hv];exact .ak _ _ .nil
 | bf=>cases hv with | aX _ _ _ hr _ _=>exact .ak _ _ hr
theorem o9.rv {C:Ctx} {g:Gh} {h:Nat→Option aI} {N:Nat→Prop} {w:World} {x y:AV} {v:Value} (hl:o9 x y) (hv:RV C g h N w x v):RV C g h N w y v:=by
 cases hl with
 | refl=>exact hv
 | nil=>rw [xP hv];exact .ak _ _ .nil
 | bf=>cases hv with | aX _ _ _ hr _ _=>exact .ak _ _ hr
 | agg hr=>
  cases hv with
  | agg _ vs h1 h2 h3=>
   refine .agg _ vs (by rw [←hr.len];exact h1) h2 fun i c u e1 e2 => ?_
   obtain ⟨q,q1,q2⟩:=hr.get i c e1
   exact q2.rv (h3 i q u q1 e2)
 | tuple hr=>
  cases hv with
  | tuple _ vs h1 h3=>
   refine .tuple _ vs (by rw [←hr.len];exact h1) fun i c u e1 e2 => ?_
   obtain ⟨q,q1,q2⟩:=hr.get i c e1
   exact q2.rv (h3 i q u q1 e2)
inductive lT:List AV→List AV→Prop where
 | nil:lT [] []
 | cons {x y:AV} {r s:List AV} (h:o9 x y) (t:lT r s):lT (x::r) (y::s)
theorem lT.len {l m:List AV} (h:lT l m):l.length=m.length:=by
 induction h with
 | nil=>rfl
 | cons h t ih=>simp [ih]
theorem lT.get {l m:List AV} (h:lT l m):∀ (j:Nat) (s:AV),m[j]?=some s→∃ r,l[j]?=some r∧o9 r s:=by
 induction h with
 | nil=>intro j y hj;simp at hj
 | cons h t ih=>
  intro j y hj
  cases j with
  | zero=>simp at hj;subst hj;exact ⟨_,by simp,h⟩
  | succ j=>simpa using ih j y (by simpa using hj)
inductive nL:AV→AV→Prop where
 | one {x y:AV} (h:o9 x y):nL x y
 | N5 {r s:List AV} (h:lT r s):nL (.tuple r) (.tuple s)
theorem nL.rv {C:Ctx} {g:Gh} {h:Nat→Option aI} {N:Nat→Prop} {w:World} {x y:AV} {v:Value} (hl:nL x y) (hv:RV C g h N w x v):RV C g h N w y v:=by
 cases hl with
 | one h=>exact h.rv hv
 | N5 hr=>
  cases hv with
  | tuple _ vs h1 h3=>
   refine .tuple _ vs (by rw [←hr.len];exact h1) fun i c u e1 e2 => ?_
   obtain ⟨q,q1,q2⟩:=hr.get i c e1
   exact q2.rv (h3 i q u q1 e2)
theorem N6 {x y:AV} {heap:List (Nat×aI)} {n:Nat} (hl:nL x y):ct ⟨[(0,x)],heap,n⟩ ⟨[(0,y)],heap,n⟩:=by
 intro C nt g a w R
 refine ⟨g,⟨⟨R.env.size,R.env.defers,fun t z hz => ?_⟩,R.heap⟩,fun _ _ _ _ E=>E⟩
 simp only [zc] at hz
 split at hz
 ·rename_i e;subst e;cases hz;exact hl.rv (R.env.slot 0 x rfl)
 ·cases hz
theorem ct.andThen {s1 s2 s3:St} (h1:ct s1 s2) (h2:ct s2 s3) (hn:s3.next≤s2.next):ct s1 s3:=by
 intro C nt g a w R
 obtain ⟨g1,R1,e1⟩:=h1 C nt g a w R
 obtain ⟨g2,R2,e2⟩:=h2 C nt g1 a w R1
 exact ⟨g2,R2,fun g0 cL w0 a1 E=>e2 g0 cL w0 a1 (e1 g0 cL w0 (uy a1 hn) E)⟩
theorem x9 {h:Nat→Option aI} {d:Nat} {α:Type} (f:α→List IV) (id sz n:Nat) (l:List α) (hn:n=l.length) (ho:h id=some (.af sz (za f l))):zJ h (d+2) (.Zag id 0 n)=some (.slice (ue f l)):=by
 subst hn;exact GO f h d id sz l ho
theorem N7 {st:St} (id sz sz':Nat) (af:List (List AV)) (r j:Nat) (row:List AV) (ho:zc st.heap id=some (.af sz af)) (hr:af[r]?=some row) (hj:row[j]?=some .nil) :
  ct st ⟨st.env,zs (qb st.heap st.next (.bf sz' 0)) id (.af sz (af.set r (row.set j (.aX st.next [])))),st.next+1⟩:=by
 intro C nt g a w R
 have DK:id < st.next:=R.heap.key _ _ ho
 obtain ⟨g',E,H,hv⟩:=Jt (id:=st.next) R.heap (ui _) sz'
 rw [xc] at E H hv
 have e1:bK [(st.next,aI.bf sz' 0)] (zc st.heap)=zc (qb st.heap st.next (.bf sz' 0)):=by
  funext i;simp only [bK,zF]
 rw [e1] at E H hv
 have ho':zc (qb st.heap st.next (.bf sz' 0)) id=some (.af sz af):=by rw [zF,if_neg (by omega)];exact ho
 have hh:∀ i o,zc (zs (qb st.heap st.next (.bf sz' 0)) id (.af sz (af.set r (row.set j (.aX st.next []))))) i=some o→(i=id∧o=.af sz (af.set r (row.set j (.aX st.next []))))∨(i≠id∧zc (qb st.heap st.next (.bf sz' 0)) i=some o):=fun i o h=>by
  rw [ze] at h
  split at h
  ·rename_i e;exact .inl ⟨e.symm,by cases h;rfl⟩
  ·rename_i e;exact .inr ⟨fun e2=>e e2.symm,h⟩
 have E2:b9 g' (zc (qb st.heap st.next (.bf sz' 0))) (· < st.next+1) w g' (zc (zs (qb st.heap st.next (.bf sz' 0)) id (.af sz (af.set r (row.set j (.aX st.next [])))))) (· < st.next+1) w:={b9.refl g' (zc (qb st.heap st.next (.bf sz' 0))) (· < st.next+1) w with
  ep:=fun i b hb _ _ _ _=>.inl hb
  cI:=fun i hb _ _ _ _=>.inl hb
  af:=fun i _ s q h1=>by
   rcases hh i _ h1 with ⟨e1,e2⟩ | ⟨_,e2⟩
   ·subst e1;cases e2;exact ⟨_,ho',by simp⟩
   ·exact ⟨q,e2,rfl⟩
  cV:=fun i _ s l h1=>by
   rcases hh i _ h1 with ⟨_,e2⟩ | ⟨_,e2⟩
   ·cases e2
   ·exact ⟨l,e2,ud _⟩
  maps:=fun i _ es h1=>by
   rcases hh i _ h1 with ⟨_,e2⟩ | ⟨_,e2⟩
   ·cases e2
   ·exact ⟨es,e2⟩
  fH:=fun i _ ll RR s pe h1=>by
   rcases hh i _ h1 with ⟨_,e2⟩ | ⟨_,e2⟩
   ·cases e2
   ·exact ⟨s,pe,e2⟩}
 refine ⟨g',⟨⟨R.env.size,(R.env.defers.eS E).eS E2,fun t x hx=>((R.env.slot t x hx).mono E).mono E2⟩,⟨H.inj,H.lt,fun i o h1 => ?_,fun i b o h1 h2 => ?_,fun i s l h1 h2 => ?_,H.ed,H.fix.eS E2⟩⟩,fun g0 cL w0 hm E0=>b9.trans (b9.trans E0 E) E2⟩
 ·rcases hh i o h1 with ⟨e1,_⟩ | ⟨_,e2⟩
  ·subst e1;exact H.key _ _ ho'
  ·exact H.key i o e2
 ·rcases hh i o h2 with ⟨e1,e2⟩ | ⟨_,e2⟩
  ·subst e1 e2
   have hro:=H.obj _ b _ h1 ho'
   simp only [dx] at hro ⊢
   obtain ⟨a1,c,e,a2,a3,a4⟩:=hro
   have hrl:r < af.length:=(ua.1 hr).1
   have hjl:j < row.length:=(ua.1 hj).1
   refine ⟨a1,c,e,a2,fun i q hi => ?_,fun i q k x hi hk => ?_⟩
   ·rw [uf] at hi
    split at hi
    ·rename_i e3;subst e3;cases hi;simpa using a3 _ row hr
    ·exact a3 i q hi
   ·rw [uf] at hi
    split at hi
    ·rename_i e3
     subst e3
     cases hi
     rw [uf] at hk
     split at hk
     ·rename_i e4
      subst e4
      cases hk
      obtain ⟨cv,b1,b2,b3⟩:=a4 _ row _ .nil hr hj
      refine ⟨cv,b1,b2,?_⟩
      rw [xP b3]
      exact hv.mono E2
     ·obtain ⟨cv,b1,b2,b3⟩:=a4 _ row k x hr hk
      exact ⟨cv,b1,b2,b3.mono E2⟩
    ·obtain ⟨cv,b1,b2,b3⟩:=a4 i q k x hi hk
     exact ⟨cv,b1,b2,b3.mono E2⟩
  ·exact (H.obj i b o h1 e2).keep E2 rfl rfl
 ·rcases hh i _ h1 with ⟨_,e2⟩ | ⟨_,e2⟩
  ·cases e2
  ·exact H.cP i s l e2 h2
end
def GS (qs:List Nat) (Ls:List (List Int)):List (List AV):=List.zipWith (fun q L=>[AV.aX q (L.map zb)]) qs Ls
structure mP (heap:List (Nat×aI)) (N P:Nat) (qs:List Nat) (Ls:List (List Int)):Prop where
 obj:zc heap P=some (.af 1 (GS qs Ls))
 bf:∀ (k q:Nat) (L:List Int),qs[k]?=some q→Ls[k]?=some L→zc heap q=some (.bf 1 L.length)
 len:qs.length=Ls.length
 nd:∀ (i j q:Nat),qs[i]?=some q→qs[j]?=some q→i=j
theorem mP.grow {heap heap':List (Nat×aI)} {N N' P:Nat} {qs:List Nat} {Ls:List (List Int)} (h:mP heap N P qs Ls) {k q:Nat} {L:List Int} (hq:qs[k]?=some q) (hP:zc heap' P=some (.af 1 (GS qs (Ls.set k L)))) (hT:zc heap' q=some (.bf 1 L.length))
  (hE:∀ j,j≠P→j≠q→(zc heap j).isSome=true→zc heap' j=zc heap j):mP heap' N' P qs (Ls.set k L) where
 obj:=hP
 len:=by simp [h.len]
 nd:=h.nd
 bf:=fun k' q' L' h1 h2=>by
  by_cases e:k'=k
  ·subst e
   have hlt:k' < Ls.length:=by
    have:=(ua.1 h1).1;rw [h.len] at this;exact this
   rw [List.getElem?_set_self hlt] at h2
   cases h2
   rw [hq] at h1;cases h1
   exact hT
  ·rw [List.getElem?_set_ne (Ne.symm e)] at h2
   have h3:=h.bf k' q' L' h1 h2
   rw [hE q' (fun e2=>by rw [e2,h.obj] at h3;cases h3) (fun e2=>e (h.nd k' k q (by rw [←e2];exact h1) hq)) (by rw [h3];rfl)]
   exact h3
section
section
variable {C:Ctx} {g g':Gh} {h h':Nat→Option aI} {N N':Nat→Prop} {w w':World} {id:Nat}
theorem Ve (R:RH C g h N w) (hid:¬ N id) {i sz:Nat} {all:List (List IV)} (hi:h i=some (.af sz (all.map fun r=>r.map AV.ak))) {v0:Value} (nG:RV C g h N w (.Zag i 0 all.length) v0) :
  ∃ g',(∀ k,k≠id→k≠i→g'.ρ k=g.ρ k)∧(∀ b,g.Z b=0→g.ρ i≠some b→g'.Z b=0)∧b9 g h N w g' (bK [(i,.dead),(id,.bf sz all.length)] h) (qo N id) w∧RH C g' (bK [(i,.dead),(id,.bf sz all.length)] h) (qo N id) w∧RV C g' (bK [(i,.dead),(id,.bf sz all.length)] h) (qo N id) w (.aX id all) v0:=by
 have hN:=R.key i _ hi
 have hne:i≠id:=fun e=>hid (e ▸ hN)
 have mG:∀ k,N k→k≠id:=fun k hk e=>hid (e ▸ hk)
 let g':Gh:=⟨fun k=>if k=id then g.ρ i else if k=i then none else g.ρ k,fun b=>if g.ρ i=some b then all.length*sz else g.Z b⟩
 have gX:∀ b,g.ρ i=some b→g.Z b=0:=fun b hb=>(R.obj i b _ hb hi).1
 have GU:∀ b,g.Z b≤g'.Z b:=fun b=>by
  simp only [g'];split
  ·rename_i e;rw [gX b e];exact uF _
  ·exact ud _
 have iO:∀ b,g.ρ i≠some b→g'.Z b=g.Z b:=fun b hb=>by simp only [g',if_neg hb]
 have gM:∀ k o,bK [(i,aI.dead),(id,aI.bf sz all.length)] h k=some o→(k=i∧o=.dead)∨(k=id∧o=.bf sz all.length)∨(k≠i∧k≠id∧h k=some o):=fun k o ho=>by
  simp only [bK] at ho
  split at ho
  ·rename_i e;cases ho;exact .inl ⟨e.symm,rfl⟩
  ·rename_i e
   split at ho
   ·rename_i e2;cases ho;exact .inr (.inl ⟨e2.symm,rfl⟩)
   ·rename_i e2;exact .inr (.inr ⟨fun e3=>e e3.symm,fun e3=>e2 e3.symm,ho⟩)
 have dZ:∀ k,k≠id→k≠i→g'.ρ k=g.ρ k:=fun k h1 h2=>by simp only [g',if_neg h1,if_neg h2]
 have pQ:g'.ρ id=g.ρ i:=by simp only [g',if_pos]
 have gT:g'.ρ i=none:=by simp only [g',if_neg hne,if_pos]
 have lU:∀ k b,g'.ρ k=some b→(k=id∧g.ρ i=some b)∨(k≠id∧k≠i∧g.ρ k=some b):=fun k b hk=>by
  by_cases h1:k=id
  ·subst h1;rw [pQ] at hk;exact .inl ⟨rfl,hk⟩
  ·by_cases h2:k=i
   ·subst h2;rw [gT] at hk;cases hk
   ·rw [dZ k h1 h2] at hk;exact .inr ⟨h1,h2,hk⟩
 have E:b9 g h N w g' (bK [(i,.dead),(id,.bf sz all.length)] h) (qo N id) w:={
  os:=rfl
  tape:=rfl
  output:=rfl
  size:=ud _
  old:=fun b _ hno=>⟨rfl,iO b fun e=>hno ⟨i,e⟩⟩
  own:=fun b ⟨k,hk⟩=>by
   rcases lU k b hk with ⟨_,h1⟩ | ⟨_,_,h1⟩
   ·exact .inl ⟨i,h1⟩
   ·exact .inl ⟨k,h1⟩
  cr:=GU
  cell:=lF.refl _ _
  shape:=fun b c e hb=>⟨c,hb,rfl⟩
  next:=fun _ hk=>.inl hk
  ep:=fun k b hb o ho hnd hk=>by
   rcases gM k o ho with ⟨_,h2⟩ | ⟨h2,_⟩ | ⟨h1,h2,_⟩
   ·exact absurd h2 hnd
   ·exact absurd h2 (mG k hk)
   ·exact .inl (by rw [dZ k h2 h1];exact hb)
  cI:=fun k hb hk o ho hnd=>by
   rcases gM k o ho with ⟨_,h2⟩ | ⟨h2,_⟩ | ⟨h1,h2,_⟩
   ·exact absurd h2 hnd
   ·exact absurd h2 (mG k hk)
   ·exact .inl (by rw [dZ k h2 h1];exact hb)
  af:=fun k hk s r ho=>by
   rcases gM k _ ho with ⟨_,h2⟩ | ⟨_,h2⟩ | ⟨_,_,h2⟩
   ·cases h2
   ·cases h2
   ·exact ⟨r,h2,rfl⟩
  cV:=fun k hk s l ho=>by
   rcases gM k _ ho with ⟨_,h2⟩ | ⟨h2,_⟩ | ⟨_,_,h2⟩
   ·cases h2
   ·exact absurd h2 (mG k hk)
   ·exact ⟨l,h2,ud _⟩
  maps:=fun k hk es ho=>by
   rcases gM k _ ho with ⟨_,h2⟩ | ⟨_,h2⟩ | ⟨_,_,h2⟩
   ·cases h2
   ·cases h2
   ·exact ⟨es,h2⟩
  fH:=fun k hk ll RR s pe ho=>by
   rcases gM k _ ho with ⟨_,h2⟩ | ⟨_,h2⟩ | ⟨_,_,h2⟩
   ·cases h2
   ·cases h2
   ·exact ⟨s,pe,h2⟩}
 have hval:(g.ρ i=none∧all=[]∧v0=.slice none 0 0)∨∃ b cap c e,g.ρ i=some b∧v0=.slice (some ⟨b,0,none⟩) all.length cap∧all.length≤cap∧w.heap[b]?=some (.cells c e (0,0))∧cap*sz≤c.size ∧
   (∀ row∈all,row.length=sz)∧∀ (k:Nat) (row:List IV) (j:Nat) (y:IV),all[k]?=some row→row[j]?=some y→∃ cv,c[k*sz+j]?=some cv∧cv.oneCell'=true∧RI g.Z w y cv:=by
  cases nG with
  | Zag _ _ _ _ _ _ hp=>
   obtain ⟨_,h2⟩:=hp sz _ hi
   rcases h2 with ⟨a1,a2,a3⟩ | ⟨b,cap,c,e,b1,b2,b3,b4,b5⟩
   ·exact .inl ⟨a1,by simpa using a2,a3⟩
   ·have pK:=R.obj i b _ b1 hi
    obtain ⟨z0,c2,e2,c3,c4,c5⟩:=pK
    rw [b4] at c3
    cases c3
    refine .inr ⟨b,cap,c,e,b1,by simpa using b2,b3,b4,by simpa using b5,fun row hr => ?_,fun k row j y hk hj => ?_⟩
    ·obtain ⟨k,hk⟩:=List.getElem?_of_mem hr
     have:=c4 k (row.map AV.ak) (by rw [uk,hk];rfl)
     simpa using this
    ·obtain ⟨cv,u1,u2,u3⟩:=c5 k (row.map AV.ak) j (.ak y) (by rw [uk,hk];rfl) (by rw [uk,hj];rfl)
     cases u3 with
     | ak _ _ gT=>exact ⟨cv,u1,u2,gT⟩
 refine ⟨g',dZ,fun b h1 h2=>by rw [iO b h2];exact h1,E,⟨fun k l b hk hl => ?_,fun k b hk => ?_,fun k o ho => ?_,fun k b o hk ho => ?_,fun k s l ho hn => ?_,fun b hb => ?_,R.fix.eS E⟩,?_⟩
 ·rcases lU k b hk with ⟨h1,h2⟩ | ⟨h1,h2,h3⟩<;>rcases lU l b hl with ⟨h4,h5⟩ | ⟨h4,h5,h6⟩
  ·rw [h1,h4]
  ·exact absurd (R.inj _ _ b h6 h2) h5
  ·exact absurd (R.inj _ _ b h3 h5) h2
  ·exact R.inj _ _ b h3 h6
 ·rcases lU k b hk with ⟨h1,h2⟩ | ⟨h1,h2,h3⟩
  ·exact ⟨(R.lt i b h2).1,.inr h1⟩
  ·exact ⟨(R.lt k b h3).1,.inl (R.lt k b h3).2⟩
 ·rcases gM k o ho with ⟨h1,_⟩ | ⟨h1,_⟩ | ⟨_,_,h1⟩
  ·exact .inl (h1 ▸ hN)
  ·exact .inr h1
  ·exact .inl (R.key k o h1)
 ·rcases lU k b hk with ⟨h1,h2⟩ | ⟨h1,h2,h3⟩
  ·rcases gM k o ho with ⟨h4,_⟩ | ⟨_,h4⟩ | ⟨_,h4,_⟩
   ·exact absurd (h4.symm.trans h1) hne
   ·subst h4
    rcases hval with ⟨a1,_⟩ | ⟨b',cap,c,e,b1,b2,b3,b4,b5,b6,_⟩
    ·rw [a1] at h2;cases h2
    ·rw [b1] at h2;cases h2
     refine ⟨c,e,b4,by simp only [g',if_pos b1],uy (uz _ b3) b5⟩
   ·exact absurd h1 h4
  ·rcases gM k o ho with ⟨h4,_⟩ | ⟨h4,_⟩ | ⟨_,_,h4⟩
   ·exact absurd h4 h2
   ·exact absurd h4 h1
   ·exact (R.obj k b o h3 h4).keep E rfl (iO b fun e=>h2 (R.inj _ _ b h3 e))
 ·rcases gM k _ ho with ⟨_,h1⟩ | ⟨h1,h2⟩ | ⟨h1,h2,h3⟩
  ·cases h1
  ·cases h2
   rw [h1,pQ] at hn
   rcases hval with ⟨_,a2,_⟩ | ⟨b,_,_,_,b1,_⟩
   ·rw [a2];rfl
   ·rw [b1] at hn;cases hn
  ·exact R.cP k s l h3 (by rw [←dZ k h2 h1];exact hn)
 ·by_cases e:g.ρ i=some b
  ·exact (R.lt i b e).1
  ·rw [iO b e] at hb;exact R.ed b hb
 ·rcases hval with ⟨a1,a2,a3⟩ | ⟨b,cap,c,e,b1,b2,b3,b4,b5,b6,b7⟩
  ·subst a2 a3
   refine .aX id [] _ .nil (.inr rfl) fun s l hs => ?_
   rcases gM id _ hs with ⟨_,h1⟩ | ⟨_,h1⟩ | ⟨_,h1,_⟩
   ·cases h1
   ·cases h1
    exact ⟨ud _,fun k row hk=>by simp at hk,fun _=>.inl ⟨by rw [pQ];exact a1,rfl⟩⟩
   ·exact absurd rfl h1
  ·subst b2
   have N8:g'.Z b=all.length*sz:=by simp only [g',if_pos b1]
   have Cg:∀ (k:Nat) (row:List IV),all[k]?=some row→row.length=sz:=fun k row hk=>b6 row (List.mem_of_getElem? hk)
   refine .aX id all _ ?_ (.inr rfl) fun s l hs => ?_
   ·refine .slice all b 0 cap sz (fun k j=>(c[k*sz+j]?).getD default) b3 Cg (fun k row j y hk hj => ?_) (fun k row j y hk hj => ?_) (fun k row j y hk hj => ?_)
    ·have h1:=Cg k row hk
     have h2:j < row.length:=(ua.1 hj).1
     have h3:k < all.length:=(ua.1 hk).1
     have h4:(k+1)*sz≤all.length*sz:=uz _ h3
     rw [Nat.add_mul] at h4
     rw [N8];omega
    ·obtain ⟨cv,u1,u2,u3⟩:=b7 k row j y hk hj
     rw [ux,qS b4,u1]
     exact ⟨rfl,u2⟩
    ·obtain ⟨cv,u1,u2,u3⟩:=b7 k row j y hk hj
     rw [u1]
     exact u3.mono GU (lF.refl _ _)
   ·rcases gM id _ hs with ⟨_,h1⟩ | ⟨_,h1⟩ | ⟨_,h1,_⟩
    ·cases h1
    ·cases h1
     exact ⟨ud _,Cg,fun _=>.inr ⟨b,cap,c,e,by rw [pQ];exact b1,rfl,b4,b5⟩⟩
    ·exact absurd rfl h1
end
theorem N9 {st:St} (t a0 b0 id sz i sz':Nat) (af:List (List AV)) (r j:Nat) (row:List AV) (all:List (List IV)) (ht:zc st.env t=some (.ptr id a0 b0)) (ho:zc st.heap id=some (.af sz af)) (hr:af[r]?=some row) (hj:row[j]?=some (.Zag i 0 all.length))
  (hi:zc st.heap i=some (.af sz' (all.map fun r=>r.map AV.ak))) (hne:i≠id) :
  ct st ⟨st.env,zs (zs (qb st.heap st.next (.bf sz' all.length)) i .dead) id (.af sz (af.set r (row.set j (.aX st.next all)))),st.next+1⟩:=by
 intro C nt g a w R
 have DK:id < st.next:=R.heap.key _ _ ho
 have hin:i < st.next:=R.heap.key _ _ hi
 obtain ⟨bo,A9,_⟩:∃ b,g.ρ id=some b∧True:=by
  have:=R.env.slot t _ ht
  cases this with
  | ptr _ _ _ _ _ _ hp=>obtain ⟨b,hb,_⟩:=hp _ _ ho;exact ⟨b,hb,trivial⟩
 obtain ⟨z0,c0,e0,k1,k2,k3⟩:=R.heap.obj id bo _ A9 ho
 obtain ⟨Oa,q1,q2,q3⟩:=k3 r row j _ hr hj
 obtain ⟨g',dZ,sk,E,H,hv⟩:=Ve (id:=st.next) R.heap (ui _) hi q3
 rw [xc] at E H hv
 have e1:bK [(i,aI.dead),(st.next,aI.bf sz' all.length)] (zc st.heap)=zc (zs (qb st.heap st.next (.bf sz' all.length)) i .dead):=by
  funext k;simp only [bK,ze,zF]
 rw [e1] at E H hv
 obtain ⟨gb,Ba⟩:∃ hp,hp=zs (qb st.heap st.next (.bf sz' all.length)) i .dead:=⟨_,rfl⟩
 rw [←Ba] at E H hv ⊢
 have Bb:g'.ρ id=g.ρ id:=dZ id (by omega) (fun e=>hne e.symm)
 have ho':zc gb id=some (.af sz af):=by rw [Ba,ze,if_neg hne,zF,if_neg (by omega)];exact ho
 have hh:∀ k o,zc (zs gb id (.af sz (af.set r (row.set j (.aX st.next all))))) k=some o→(k=id∧o=.af sz (af.set r (row.set j (.aX st.next all))))∨(k≠id∧zc gb k=some o):=fun k o h=>by
  rw [ze] at h
  split at h
  ·rename_i e;exact .inl ⟨e.symm,by cases h;rfl⟩
  ·rename_i e;exact .inr ⟨fun e2=>e e2.symm,h⟩
 have E2:b9 g' (zc gb) (· < st.next+1) w g' (zc (zs gb id (.af sz (af.set r (row.set j (.aX st.next all)))))) (· < st.next+1) w:={b9.refl g' (zc gb) (· < st.next+1) w with
  ep:=fun i b hb _ _ _ _=>.inl hb
  cI:=fun i hb _ _ _ _=>.inl hb
  af:=fun i _ s q h1=>by
   rcases hh i _ h1 with ⟨e1,e2⟩ | ⟨_,e2⟩
   ·subst e1;cases e2;exact ⟨_,ho',by simp⟩
   ·exact ⟨q,e2,rfl⟩
  cV:=fun i _ s l h1=>by
   rcases hh i _ h1 with ⟨_,e2⟩ | ⟨_,e2⟩
   ·cases e2
   ·exact ⟨l,e2,ud _⟩
  maps:=fun i _ es h1=>by
   rcases hh i _ h1 with ⟨_,e2⟩ | ⟨_,e2⟩
   ·cases e2
   ·exact ⟨es,e2⟩
  fH:=fun i _ ll RR s pe h1=>by
   rcases hh i _ h1 with ⟨_,e2⟩ | ⟨_,e2⟩
   ·cases e2
   ·exact ⟨s,pe,e2⟩}
 refine ⟨g',⟨⟨R.env.size,(R.env.defers.eS E).eS E2,fun t x hx=>((R.env.slot t x hx).mono E).mono E2⟩,⟨H.inj,H.lt,fun i o h1 => ?_,fun i b o h1 h2 => ?_,fun i s l h1 h2 => ?_,H.ed,H.fix.eS E2⟩⟩,fun g0 cL w0 hm E0=>b9.trans (b9.trans E0 E) E2⟩
 ·rcases hh i o h1 with ⟨e1,_⟩ | ⟨_,e2⟩
  ·subst e1;exact H.key _ _ ho'
  ·exact H.key i o e2
 ·rcases hh i o h2 with ⟨e1,e2⟩ | ⟨_,e2⟩
  ·rw [e1,Bb,A9] at h1
   have hro:=H.obj _ b _ (by rw [Bb,A9];exact h1) ho'
   cases h1
   subst e2
   simp only [dx] at hro ⊢
   obtain ⟨a1,c,e,a2,a3,a4⟩:=hro
   rw [k1] at a2
   cases a2
   have hrl:r < af.length:=(ua.1 hr).1
   have hjl:j < row.length:=(ua.1 hj).1
   refine ⟨a1,c0,e0,k1,fun i q hi => ?_,fun i q k x hi hk => ?_⟩
   ·rw [uf] at hi
    split at hi
    ·rename_i e3;subst e3;cases hi;simpa using a3 _ row hr
    ·exact a3 i q hi
   ·rw [uf] at hi
    split at hi
    ·rename_i e3
     subst e3
     cases hi
     rw [uf] at hk
     split at hk
     ·rename_i e4
      subst e4
      cases hk
      exact ⟨Oa,q1,q2,hv.mono E2⟩
     ·obtain ⟨cv,b1,b2,b3⟩:=a4 _ row k x hr hk
      exact ⟨cv,b1,b2,b3.mono E2⟩
    ·obtain ⟨cv,b1,b2,b3⟩:=a4 i q k x hi hk
     exact ⟨cv,b1,b2,b3.mono E2⟩
  ·exact (H.obj i b o h1 e2).keep E2 rfl rfl
 ·rcases hh i _ h1 with ⟨_,e2⟩ | ⟨_,e2⟩
  ·cases e2
  ·exact H.cP i s l e2 h2
theorem Ob {st:St} (t i sz':Nat) (all:List (List IV)) (ht:zc st.env t=some (.Zag i 0 all.length)) (hi:zc st.heap i=some (.af sz' (all.map fun r=>r.map AV.ak))) :
  ct st ⟨zs st.env t (.aX st.next all),zs (qb st.heap st.next (.bf sz' all.length)) i .dead,st.next+1⟩:=by
 intro C nt g a w R
 obtain ⟨g',dZ,sk,E,H,hv⟩:=Ve (id:=st.next) R.heap (ui _) hi (R.env.slot t _ ht)
 rw [xc] at E H hv
 have e1:bK [(i,aI.dead),(st.next,aI.bf sz' all.length)] (zc st.heap)=zc (zs (qb st.heap st.next (.bf sz' all.length)) i .dead):=by
  funext k;simp only [bK,ze,zF]
 rw [e1] at E H hv
 refine ⟨g',⟨⟨R.env.size,R.env.defers.eS E,fun t' x hx => ?_⟩,H⟩,fun g0 cL w0 hm E0=>E0.trans E⟩
 rw [ze] at hx
 split at hx
 ·rename_i e
  subst e
  cases hx
  exact hv
 ·exact (R.env.slot t' x hx).mono E
end
section
def Ch:List Nat→List AV→List (Nat×AV)→List (Nat×AV)
 | p::ps,x::xs,env=>Ch ps xs (zs env p x)
 | _,_,env=>env
def bY.round (C:bY) (l:Nat):bY:={C.toCtx with ro:=some l,eY:=none,Y:=Aa,ol:=fun _ _ _ _ _ _ _ _ h=>h,Dd:=fun _ _ _ _ _ _ h=>h.elim}
def Oc (dO L:Nat) (R:LoopState→Option Code→Loop) (KK:AV→List (Nat×aI)→Nat→Prop):Exit→St→Prop
 | .normal,s=>zc s.heap dO=some (.lp L R .busy none)∧KK (.ak (.bool true)) (zs s.heap dO (.lp L R .ready none)) (s.next+1)
 | .ret,s=>zc s.heap dO=some (.lp L R .busy none)∧KK (.ak (.bool false)) (zs s.heap dO (.lp L R .done (some .ret))) (s.next+1)
 | .exit id,s=>zc s.heap dO=some (.lp L R .busy none)∧KK (.ak (.bool false)) (zs s.heap dO (.lp L R .done (some (.exit id)))) (s.next+1)
 | _,_=>False
def Od (C:bY) (nt:Fr) (dO L:Nat) (R:LoopState→Option Code→Loop) (y:cH) (KK:AV→List (Nat×aI)→Nat→Prop) (s:St):Prop:=
 zc s.heap dO=some (.lp L R .ready none)∧dF (C.round L) nt y (Oc dO L R KK) ⟨s.env,zs s.heap dO (.lp L R .busy none),s.next+1⟩
def Z0 (C:bY) (nt:Fr) (env:List (Nat×AV)) (dO L:Nat) (R:LoopState→Option Code→Loop) (ps:List Nat) (x y:cH):Nat→Nat→List AV→List (Nat×aI)→Nat→(AV→List (Nat×aI)→Nat→Prop)→Prop:=
 fun l id args heap next KK=>l=L∧id=dO∧args.length=ps.length∧zc heap dO=some (.lp L R .ready none) ∧
  dF (C.round L) nt x (kW (Od C nt dO L R y KK) (fun _ _=>False)) ⟨Ch ps args env,heap,next⟩
def GV (env:List (Nat×AV)) (dO L:Nat) (R:LoopState→Option Code→Loop) (K:Exit→St→Prop) (heap:List (Nat×aI)) (next:Nat):Prop:=
 (zc heap dO=some (.lp L R .ready none)∧K .normal ⟨env,zs heap dO (.lp L R .exhausted none),next+1⟩) ∨
 (zc heap dO=some (.lp L R .done (some .ret))∧K .ret ⟨env,zs heap dO (.lp L R .exhausted (some .ret)),next+1⟩) ∨
 (∃ id,zc heap dO=some (.lp L R .done (some (.exit id)))∧K (.exit id) ⟨env,zs heap dO (.lp L R .exhausted (some (.exit id))),next+1⟩)
section
variable {C:bY} {nt:Fr} {g g':Gh} {st:St} {a:Act} {w:World}
theorem Oe {code:Code} {f:bD} {ps:List Nat} {x y:cH} (hc:comp C nt.n code=some (.range f ps x y)):∃ fo pR p q,code=.rangeFunc fo pR p q∧f=C.bt fo∧ps=pR.toList∧(∀ t∈ps,t < nt.n)∧comp C nt.n p=some x∧comp C nt.n q=some y:=by
 cases code<;>simp only [comp] at hc<;>(repeat' split at hc)<;>cases hc
 rename_i hall _ _ h1 h2
 exact ⟨_,_,_,_,rfl,rfl,rfl,fun t ht=>by have:=uh.1 hall t ht;simpa using this,h1,h2⟩
theorem Vf {env:List (Nat×AV)} {dO L:Nat} {R:LoopState→Option Code→Loop} {ps:List Nat} {x y:cH}:∀ l id args heap next (K K':AV→List (Nat×aI)→Nat→Prop),(∀ r h n,K r h n→K' r h n)→Z0 C nt env dO L R ps x y l id args heap next K→Z0 C nt env dO L R ps x y l id args heap next K':=by
 rintro l id args heap next K K' hk ⟨h1,h2,h3,h4,h5⟩
 refine ⟨h1,h2,h3,h4,jY (fun e s hs => ?_) h5⟩
 cases e with
 | normal=>
  refine ⟨hs.1,jY (fun e s hs => ?_) hs.2⟩
  cases e with
  | normal=>exact ⟨hs.1,hk _ _ _ hs.2⟩
  | ret=>exact ⟨hs.1,hk _ _ _ hs.2⟩
  | exit id=>exact ⟨hs.1,hk _ _ _ hs.2⟩
  | _=>exact hs
 | _=>exact hs
theorem GW {h:Nat→Option aI} {N:Nat→Prop}:∀ (ps:List Nat) (args:List AV) (vs:List Value) (env:List (Nat×AV)) (a:Act),(∀ t∈ps,t < nt.n)→RE C nt g env h N a w→nH C g h N w args vs →
  RE C nt g (Ch ps args env) h N {a with tmps:=(ps.zip vs).foldl (fun t pv=>t.setIfInBounds pv.1 pv.2) a.tmps} w
 | [],args,vs,env,a,_,R,_=>by cases args<;>exact R
 | p::ps,[],vs,env,a,_,R,hv=>by
  have:vs=[]:=uq hv.1.symm
  subst this
  exact R
 | p::ps,x::xs,[],env,a,_,R,hv=>by have:=hv.1;simp at this
 | p::ps,x::xs,v::vs,env,a,hp,R,hv=>by
  have R1:=R.put p (hp p (by simp)) (hv.2 0 x v rfl rfl)
  have:=GW ps xs vs (zs env p x) (a.put (some p) v) (fun t ht=>hp t (by simp [ht])) R1 ⟨by have:=hv.1;simpa using this,fun j y u hj hu=>hv.2 (j+1) y u (by simpa using hj) (by simpa using hu)⟩
  exact this
theorem Yj {heap:List (Nat×aI)} {next:Nat} {dO L:Nat} {R:LoopState→Option Code→Loop} {s s':LoopState} {pe lV:Option Code} (H:RH C g (zc heap) (· < next) w) (ho:zc heap dO=some (.lp L R s pe)) (hρ:g.ρ dO=some L) :
  w.heap[L]?=some (.loop (R s pe))∧b9 g (zc heap) (· < next) w g (zc (zs heap dO (.lp L R s' lV))) (· < next+1) (w.putObj L (.loop (R s' lV)))∧RH C g (zc (zs heap dO (.lp L R s' lV))) (· < next+1) (w.putObj L (.loop (R s' lV))):=by
 have H0:=H.obj dO L _ hρ ho
 obtain ⟨hz,_,hb⟩:=H0
 have E:=Xv (id:=next) H hρ hz (.lp L R s pe) (.lp L R s' lV) ho (.loop (R s' lV)) ⟨rfl,rfl⟩ (fun c e hc=>by rw [hb] at hc;cases hc)
 have hR:=WM (id:=next) H hρ (.lp L R s' lV) (.loop (R s' lV)) (fun _ _ h=>by cases h) E ⟨hz,rfl,by rw [zI w L _ (qd hb),if_pos rfl]⟩
 rw [xc] at E hR
 have e1:bK [(dO,aI.lp L R s' lV)] (zc heap)=zc (zs heap dO (.lp L R s' lV)):=by
  funext i;simp only [bK,ze]
 rw [e1] at E hR
 exact ⟨hb,E,hR⟩
theorem Of (hro:C.ro=none) {f:bD} {ps:List Nat} {x y:cH} {K:Exit→St→Prop} {gf:Nat} {bC:List AV} (hf:zd st.env f=.func gf [] bC) {F:dM} (hF:qM C gf=some F.erase) (hn:bC.length+1≤F.nt)
  (h:∀ (L:Nat) (R:LoopState→Option Code→Loop) (eY:Option (Gh×St×World)) ym yk (B:Nat),
   dF ⟨C.toCtx,none,eY,Z0 C nt st.env st.next L R ps x y,ym,yk⟩ ⟨F.nt,B⟩ F.body (Dj F fun _ heap next=>GV st.env st.next L R K heap next)
    ⟨ju 0 (.eI L st.next::bC),zs st.heap st.next (.lp L R .ready none),st.next+1⟩):dF C nt (.range f ps x y) K st:=by
 intro code hc g a w Rl hI
 obtain ⟨fo,pR,p,q,rfl,rfl,rfl,hps,hp,hq⟩:=Oe hc
 rw [hro]
 refine wpIn_rangeFunc ?_
 intro fn _
 have hv:=kV Rl fo
 rw [hf] at hv
 generalize hval:a.eval fo=v at hv
 cases hv with
 | func _ _ _ vf vc hlf hlc FZ eW=>
 obtain rfl:vf=[]:=uq hlf.symm
 obtain ⟨R,pg⟩:∃ R:LoopState→Option Code→Loop,R=fun s pe=>{state:=s,pending:=pe,fn,tmps:=a.tmps,params:=pR,assign:=p,body:=q,defers:=w.heap.size}:=⟨_,rfl⟩
 have hRs:∀ s s' pe lV,{R s pe with state:=s',pending:=lV}=R s' lV:=fun s s' pe lV=>by rw [pg]
 have hB:Below w.heap.size w (w.alloc (.deferred (some []))):=(Below.refl _ w).alloc (ud _) _
 have E0:b9 g (zc st.heap) (· < st.next) w g (zc st.heap) (· < st.next) (w.alloc (.deferred (some []))):=wc Rl.heap hB (fun _ _=>rfl)
 have H0:RH C g (zc st.heap) (· < st.next) (w.alloc (.deferred (some []))):=kX Rl.heap hB (fun _ _=>rfl) (fun b hb=>by have:=Rl.heap.ed b hb;simp;omega)
 have hid:¬ (st.next < st.next):=ui _
 have E1:=Xu (id:=st.next) H0 hid (.loop (R .ready none)) (.lp (w.heap.size+1) R .ready none) 0
 have H1:=CW (id:=st.next) H0 hid (.loop (R .ready none)) (.lp (w.heap.size+1) R .ready none) 0 ⟨by simp [Gh.at],by simp,zX _ _⟩
 have e1:bK [(st.next,aI.lp (w.heap.size+1) R .ready none)] (zc st.heap)=zc (zs st.heap st.next (.lp (w.heap.size+1) R .ready none)):=by
  funext i;simp only [bK,ze]
 rw [xc,e1] at E1 H1
 obtain ⟨W1,DL⟩:∃ W1,(w.alloc (.deferred (some []))).alloc (.loop (R .ready none))=W1:=⟨_,rfl⟩
 rw [DL] at E1 H1
 have hl:(w.alloc (.deferred (some []))).heap.size=w.heap.size+1:=by simp
 rw [hl] at E1 H1
 obtain ⟨g1,gI⟩:∃ g1,g.at st.next (w.heap.size+1) 0=g1:=⟨_,rfl⟩
 have hρ:g1.ρ st.next=some (w.heap.size+1):=by rw [←gI];simp [Gh.at]
 have hown:¬ wq g1 w.heap.size:=by
  rw [←gI]
  rintro ⟨i,hi⟩
  simp only [Gh.at] at hi
  split at hi
  ·have:=Option.some.inj hi;omega
  ·have:=(Rl.heap.lt i _ hi).1;omega
 rw [gI] at E1 H1
 have sV:=b9.trans E0 E1
 have Og:W1.heap[w.heap.size]?=some (.deferred (some [])):=by
  rw [←DL];exact (qF _ _ (by simp)).trans (zX _ _)
 have M1:Marks nt.B g1 W1 ({target:=.collected w.heap.size,args := #[]}::a.defers):=by
  obtain ⟨m0,Ds,m1,m2,m3⟩:=Rl.env.defers
  refine ⟨uy m0 sV.size,w.heap.size::Ds,by rw [m1];rfl,List.nodup_cons.2 ⟨fun hm => ?_,m2⟩,fun D hD => ?_⟩
  ·have:=(ut.1 (m3 _ hm).2.1).1;omega
  ·rcases ub.1 hD with rfl | hD
   ·exact ⟨m0,Og,hown⟩
   ·obtain ⟨n1,n2,n3⟩:=m3 D hD
    have hlt:=(ut.1 n2).1
    exact ⟨n1,(sV.old D hlt n3).1.trans n2,fun ho=>(sV.own D ho).elim n3 (fun h=>by omega)⟩
 have yk:∀ l id args heap next KK,Z0 C nt st.env st.next (w.heap.size+1) R pR.toList x y l id args heap next KK→∀ (g':Gh) (w':World) (vs:List Value),RH C g' (zc heap) (· < next) w'→nH C g' (zc heap) (· < next) w' args vs→(∀ R s pe,zc heap id=some (.lp l R s pe)→g'.ρ id=some l) →
   b9 g1 (zc (zs st.heap st.next (.lp (w.heap.size+1) R .ready none))) (· < st.next+1) W1 g' (zc heap) (· < next) w' →
   YieldAt Fence.wide 0 C.P l vs.toArray w' fun e w''=>∃ v r heap' next' g'',e=.returned v∧KK r heap' next'∧b9 g' (zc heap) (· < next) w' g'' (zc heap') (· < next') w''∧RH C g'' (zc heap') (· < next') w''∧RV C g'' (zc heap') (· < next') w'' r v:=by
  rintro l id args heap next KK ⟨rfl,rfl,hlen,sW,hwp⟩ g' w' vs H' hvs Dg E'
  have GX:=Dg R _ _ sW
  have hb':w'.heap[w.heap.size+1]?=some (.loop (R .ready none)):=(H'.obj _ _ _ GX sW).2.2
  have DM:vs.toArray.size=(R .ready none).params.size:=by rw [pg];have:=hvs.1;simp only [List.size_toArray];rw [←this,hlen];simp
  have hy:=run_yield (P:=C.P) hb' DM
  refine ⟨_,_,_,_,hy,?_⟩
  rw [pg]
  simp only
  refine roundIn_of_wpIn trivial ?_
  have Bc:=b9.trans sV E'
  have Oh:RE C nt g' st.env (zc heap) (· < next) {a with defers:=[]} w':=⟨Rl.env.size,Marks.nil _ (uy Rl.env.defers.1 Bc.size),fun t z hz=>(Rl.env.slot t z hz).mono Bc⟩
  have Oi:=GW pR.toList args vs st.env {a with defers:=[]} hps Oh hvs
  have hz:(pR.zip vs.toArray).foldl (fun tmps (t,a)=>tmps.setIfInBounds t a) a.tmps=(pR.toList.zip vs).foldl (fun t pv=>t.setIfInBounds pv.1 pv.2) a.tmps:=by
   rw [←Array.foldl_toList];simp
  rw [hz]
  refine Code.wpIn_mono ?_ (hwp p hp g' _ w' ⟨Oi,H'⟩ trivial)
  rintro e a1 w1 ⟨nV,DN,hk,R1,E2⟩
  cases e with
  | normal=>
   obtain ⟨hk1,hk2⟩:=hk
   have GY:DN.ρ st.next=some (w.heap.size+1):=by
    rcases E2.ep _ _ GX _ hk1 (by simp) (H'.key _ _ sW) with h4 | ⟨_,_,_,_,_,e2,_⟩
    ·exact h4
    ·cases e2
   obtain ⟨sX,E3,H3⟩:=Yj (s':=.busy) (lV:=none) R1.heap hk1 GY
   refine ⟨_,run_beginRound sX (by rw [pg]),?_⟩
   have e3:({R .ready none with state:=.busy}:Loop)=R .busy none:=by rw [pg]
   rw [e3]
   have R3:Rel C nt DN ⟨nV.env,zs nV.heap st.next (.lp (w.heap.size+1) R .busy none),nV.next+1⟩ a1 (w1.putObj (w.heap.size+1) (.loop (R .busy none))):=⟨R1.env.mono E3,H3⟩
   refine Code.wpIn_mono ?_ (hk2 q hq DN a1 _ R3 trivial)
   rintro e a4 w4 ⟨DO,g4,fJ,R4,E4⟩
   have fin:∀ (jump:Option Code),zc DO.heap st.next=some (.lp (w.heap.size+1) R .busy none)→KK (.ak (.bool jump.isNone)) (zs DO.heap st.next (.lp (w.heap.size+1) R (if jump.isNone then .ready else .done) jump)) (DO.next+1) →
     ∃ v w'',(Instr.endRound (w.heap.size+1) jump).run C.P w4=.ok v w''∧∃ v' r heap' next' g'',Ending.returned v=.returned v'∧KK r heap' next'∧b9 g' (zc heap) (· < next) w' g'' (zc heap') (· < next') w''∧RH C g'' (zc heap') (· < next') w''∧RV C g'' (zc heap') (· < next') w'' r v':=fun jump h5 h6=>by
    have Oj:g4.ρ st.next=some (w.heap.size+1):=by
     rcases E4.ep _ _ GY _ h5 (by simp) (R3.heap.key st.next (.lp (w.heap.size+1) R .busy none) (by simp only [ze,if_true])) with h7 | ⟨_,_,_,_,_,e2,_⟩
     ·exact h7
     ·cases e2
    obtain ⟨DP,E5,H5⟩:=Yj (s':=if jump.isNone then .ready else .done) (lV:=jump) R4.heap h5 Oj
    have hrun:=run_endRound (P:=C.P) jump DP
    have e5:({R .busy none with state:=if jump.isNone then .ready else .done,pending:=jump}:Loop)=R (if jump.isNone then .ready else .done) jump:=by rw [pg]
    rw [e5] at hrun
    exact ⟨_,_,hrun,_,_,_,_,g4,rfl,h6,b9.trans (b9.trans (b9.trans E2 E3) E4) E5,H5,.ak _ _ (.bool _)⟩
   cases e with
   | normal=>exact fin none fJ.1 fJ.2
   | ret=>exact fin (some .ret) fJ.1 fJ.2
   | exit id=>exact fin (some (.exit id)) fJ.1 fJ.2
   | _=>exact fJ.elim
  | _=>exact hk.elim
 have hargs:nH C g1 (zc (zs st.heap st.next (.lp (w.heap.size+1) R .ready none))) (· < st.next+1) W1 (.eI (w.heap.size+1) st.next::bC) (.func (.yield (w.heap.size+1)) #[] #[]::vc):=by
  refine ⟨by simp [hlc],fun j z u hj hu => ?_⟩
  cases j with
  | zero=>
   simp at hj hu
   subst hj hu
   exact .eI _ _ (uB _) fun R' s pe he=>hρ
  | succ j=>exact (eW j z u (by simpa using hj) (by simpa using hu)).mono sV
 have gC:=X7 (C:=⟨C.toCtx,none,some (g1,⟨[],zs st.heap st.next (.lp (w.heap.size+1) R .ready none),st.next+1⟩,W1),Z0 C nt st.env st.next (w.heap.size+1) R pR.toList x y,Vf,yk⟩) rfl hF (by simpa [Nat.add_comm] using hn)
  (h (w.heap.size+1) R (some (g1,⟨[],zs st.heap st.next (.lp (w.heap.size+1) R .ready none),st.next+1⟩,W1)) Vf yk) H1 hargs (b9.refl _ _ _ _)
 obtain ⟨GZ,codeF,DQ,sY,sZ,_⟩:=kY hF
 have eg:∀ args w,(callFunc (C.eC gf) args).run C.P w=.ok (.enter (C.eC gf) args) w:=fun args w=>by
  have h4:¬ GZ.body=none:=fun h=>by simp [h] at sY
  have h5 : ¬ GZ.name = "runtime.NumGoroutine" := fun h => by simp [h] at sZ
  simp [callFunc,DQ,h4,h5]
 refine ⟨w.heap.size+1,[{target:=.collected w.heap.size,args := #[]}],W1,{target:=.fn (.func (C.eC gf)) vc.toArray,args := #[.func (.yield (w.heap.size+1)) #[] #[]]},W1,C.eC gf,
  #[.func (.yield (w.heap.size+1)) #[] #[]]++vc.toArray,W1,?_,?_,fun _ _=>trivial,?_,fun h=>(by cases h),?_⟩
 ·rw [←DL,pg];exact run_enterLoop_outer _ _ _ _ _
 ·simp only [resolve,hval]
  simp [go_sem]
 ·simp [invoke,go_sem,eg]
 ·have mL : #[Value.func (.yield (w.heap.size+1)) #[] #[]]++vc.toArray=(Value.func (.yield (w.heap.size+1)) #[] #[]::vc).toArray:=by apply Array.ext';simp
  rw [mL]
  refine (callsIn_wide.2 gC).mono ?_
  rintro e w2 ⟨v,r,heap',next',g2,rfl,hK,E2,H2,_⟩
  have fin:∀ (s:LoopState) (pe:Option Code),s≠.busy→zc heap' st.next=some (.lp (w.heap.size+1) R s pe)→(Instr.endLoop (w.heap.size+1)).run C.P w2=.ok pe (w2.putObj (w.heap.size+1) (.loop (R .exhausted pe))) ∧
    Rel C nt g2 ⟨st.env,zs heap' st.next (.lp (w.heap.size+1) R .exhausted pe),next'+1⟩ {a with defers:={target:=.collected w.heap.size,args := #[]}::a.defers} (w2.putObj (w.heap.size+1) (.loop (R .exhausted pe))) ∧
    dN g st w g2 ⟨st.env,zs heap' st.next (.lp (w.heap.size+1) R .exhausted pe),next'+1⟩ (w2.putObj (w.heap.size+1) (.loop (R .exhausted pe))):=fun s pe hs ho=>by
   have Ol:g2.ρ st.next=some (w.heap.size+1):=by
    rcases E2.ep _ _ hρ _ ho (by simp) (uB _) with h4 | ⟨_,_,_,_,_,e2,_⟩
    ·exact h4
    ·cases e2
   obtain ⟨gJ,E3,H3⟩:=Yj (s':=.exhausted) (lV:=pe) H2 ho Ol
   have hrun:=run_endLoop (P:=C.P) gJ (by rw [pg];exact hs)
   have e5:({R s pe with state:=.exhausted}:Loop)=R .exhausted pe:=by rw [pg]
   have e6:(R s pe).pending=pe:=by rw [pg]
   rw [e5,e6] at hrun
   have DR:=b9.trans E2 E3
   exact ⟨hrun,⟨⟨Rl.env.size,M1.eS DR,fun t z hz=>((Rl.env.slot t z hz).mono sV).mono DR⟩,H3⟩,b9.trans sV DR⟩
  rcases hK with ⟨h1,h2⟩ | ⟨h1,h2⟩ | ⟨id,h1,h2⟩
  ·obtain ⟨f1,f2,f3⟩:=fin _ _ (by simp) h1
   exact ⟨none,_,f1,_,g2,h2,f2,f3⟩
  ·obtain ⟨f1,f2,f3⟩:=fin _ _ (by simp) h1
   exact ⟨some .ret,_,f1,wpIn_ret ⟨_,g2,h2,f2,f3⟩⟩
  ·obtain ⟨f1,f2,f3⟩:=fin _ _ (by simp) h1
   exact ⟨some (.exit id),_,f1,wpIn_exit ⟨_,g2,h2,f2,f3⟩⟩
end
end
def Zz:Nat→List (List Int)→List (Nat×aI)
 | _,[]=>[]
 | b,L::r=>bif uo b 2000000 then (b,.bf 1 L.length)::Zz (b+1) r else []
def qN (Ls:List (List Int)):List (Nat×aI):=(qk,.dead)::Zz zi Ls
def jJ:List (Nat×aI)→List (Nat×aI)
 | []=>[]
 | (k,o)::r=>match uH k qk with
  | true=>[]
  | false=>(k,o)::jJ r
def wx:List (Nat×aI)→List (Nat×aI)
 | []=>[]
 | (k,o)::r=>match uH k qk with
  | true=>(k,o)::r
  | false=>wx r
def xd:List (Nat×aI)→Bool
 | []=>true
 | (k,o)::r=>match uH k qk with
  | true=>true
  | false=>(uo k qk||uG 2000000 k)&&xd r
theorem Kf:∀ (Ls:List (List Int)) (b:Nat),(qA b Ls).length=Ls.length
 | [],_=>rfl
 | L::r,b=>by simp [qA,Kf r]
theorem Kg:∀ (Ls:List (List Int)) (b k:Nat) (L:List Int),(qA b Ls).set k (vo (b+k) L)=qA b (Ls.set k L)
 | [],b,k,L=>by simp [qA]
 | M::r,b,0,L=>by simp [qA]
 | M::r,b,k+1,L=>by
  simp only [qA,List.set_cons_succ]
  rw [←Kg r (b+1) k L,show b+1+k=b+(k+1) by omega]
theorem Kh:∀ (Ls:List (List Int)) (b j:Nat),zc (Zz b Ls) j=if b≤j∧j < 2000000 then (Ls[j - b]?).map (fun L=>aI.bf 1 L.length) else none
 | [],b,j=>by simp [Zz,zc]
 | L::r,b,j=>by
  simp only [Zz]
  cases h:uo b 2000000 with
  | false=>
   have:¬ b < 2000000:=fun hb=>by rw [show uo b 2000000=true by simpa [un] using hb] at h;cases h
   simp only [bM,zc]
   rw [if_neg (by omega)]
  | true=>
   have hb:b < 2000000:=by simpa [un] using h
   simp only [bL,zc]
   by_cases e:b=j
   ·subst e
    rw [if_pos rfl,if_pos ⟨ud _,hb⟩];simp
   ·rw [if_neg e,Kh r (b+1) j]
    by_cases h2:b≤j∧j < 2000000
    ·obtain ⟨k,hk⟩:∃ k,j - b=k+1:=⟨j - b - 1,by omega⟩
     rw [if_pos (by omega),if_pos h2,hk,show j - (b+1)=k by omega,uv]
    ·rw [if_neg (by omega),if_neg h2]
theorem jM (Ls:List (List Int)) (j:Nat):zc (qN Ls) j=if j=qk then some .dead else if zi≤j∧j < 2000000 then (Ls[j - zi]?).map (fun L=>aI.bf 1 L.length) else none:=by
 simp only [qN,zc]
 by_cases e:qk=j
 ·rw [if_pos e,if_pos e.symm]
 ·rw [if_neg e,if_neg (fun h=>e h.symm),Kh]
theorem xy {α:Type}:∀ (a b:List (Nat×α)) (j:Nat),zc (a++b) j=(zc a j).or (zc b j)
 | [],b,j=>by simp [zc]
 | (k,v)::a,b,j=>by
  simp only [uC,zc]
  by_cases e:k=j
  ·rw [if_pos e,if_pos e];rfl
  ·rw [if_neg e,if_neg e];exact xy a b j
theorem G0:∀ l:List (Nat×aI),jJ l++wx l=l
 | []=>rfl
 | (k,o)::r=>by
  simp only [jJ,wx]
  split
  ·rfl
  ·rw [uC,G0 r]
theorem xh (l:List (Nat×aI)) (j:Nat):zc l j=(zc (jJ l) j).or (zc (wx l) j):=by
 conv=>lhs;rw [←G0 l]
 exact xy _ _ _
theorem yh:∀ {l:List (Nat×aI)},xd l=true→∀ {j:Nat} {o:aI},zc (jJ l) j=some o→j < qk∨2000000≤j
 | [],h,j,o,e=>by cases e
 | (k,v)::r,h,j,o,e=>by
  simp only [xd,jJ] at h e
  split at h
  ·rename_i hk;rw [hk] at e;cases e
  ·rename_i hk
   rw [hk] at e
   simp only [Bool.and_eq_true,Bool.or_eq_true] at h
   simp only [zc] at e
   split at e
   ·rename_i ek
    subst ek
    rcases h.1 with h1 | h1
    ·exact .inl (by simpa [un] using h1)
    ·exact .inr (um h1)
   ·exact yh h.2 e
structure oG (heap:List (Nat×aI)) (P:Nat) (Ls:List (List Int)):Prop where
 obj:zc heap P=some (.af 1 (qA zi Ls))
 tail:wx heap=qN Ls
 out:xd heap=true
theorem oG.bf {heap:List (Nat×aI)} {P:Nat} {Ls:List (List Int)} (h:oG heap P Ls) {k:Nat} {L:List Int} (hL:Ls[k]?=some L) (hk:k < 1000000):zc heap (zi+k)=some (.bf 1 L.length):=by
 rw [xh]
 cases e:zc (jJ heap) (zi+k) with
 | some o=>have:=yh h.out e;simp only [zi,qk] at this;omega
 | none=>
  rw [uu,h.tail,jM,if_neg (by simp only [zi,qk];omega),if_pos (by simp only [zi];omega),show zi+k - zi=k by omega,hL];rfl
theorem Ki:∀ (Ls:List (List Int)) (b:Nat) (p:Nat×aI),p∈Zz b Ls→∃ (k:Nat) (L:List Int),Ls[k]?=some L∧p=(b+k,.bf 1 L.length)∧b+k < 2000000
 | [],b,p,h=>by simp [Zz] at h
 | L::r,b,p,h=>by
  simp only [Zz] at h
  cases hb:uo b 2000000 with
  | false=>rw [hb] at h;simp at h
  | true=>
   rw [hb,bL] at h
   rcases ub.1 h with h | h
   ·exact ⟨0,L,rfl,h,by simpa [un] using hb⟩
   ·obtain ⟨k,M,h1,h2,h3⟩:=Ki r (b+1) p h
    exact ⟨k+1,M,by simpa using h1,by rw [h2,show b+1+k=b+(k+1) by omega],by omega⟩
theorem Om {heap:List (Nat×aI)} {Ls:List (List Int)} (ht:wx heap=qN Ls) (ho:xd heap=true):∀ p∈qN Ls,zc heap p.1=some p.2∧p.1 < 2000000∧∀ m,zY m p.2:=by
 intro p hp
 have hnone:∀ j,qk≤j→j < 2000000→zc (jJ heap) j=none:=fun j h1 h2=>by
  cases e:zc (jJ heap) j with
  | none=>rfl
  | some o=>have:=yh ho e;omega
 rcases ub.1 hp with rfl | hp
 ·refine ⟨?_,by simp [qk],fun m=>trivial⟩
  rw [xh,hnone _ (ud _) (by simp [qk]),uu,ht,jM,if_pos rfl]
 ·obtain ⟨k,L,h1,rfl,h3⟩:=Ki _ _ _ hp
  refine ⟨?_,h3,fun m=>trivial⟩
  simp only
  rw [xh,hnone _ (by simp only [qk,zi];omega) h3,uu,ht,jM,if_neg (by simp only [qk,zi];omega),if_pos ⟨by omega,h3⟩,show zi+k - zi=k by omega,h1]
  rfl
theorem G1 {env env':List (Nat×AV)} {heap heap':List (Nat×aI)} {n:Nat} (he:∀ t x,zc env' t=some x→zc env t=some x) (h:∀ j o,zc heap' j=some o→zc heap j=some o):ct ⟨env,heap,n⟩ ⟨env',heap',n⟩:=by
 intro C nt g a w R
 obtain ⟨RE,R⟩:=R
 simp only at RE R
 have E:b9 g (zc heap) (· < n) w g (zc heap') (· < n) w:={b9.refl g (zc heap) (· < n) w with
  ep:=fun i b hb _ _ _ _=>.inl hb
  cI:=fun i hb _ _ _ _=>.inl hb
  af:=fun i _ s r h1=>⟨r,h i _ h1,rfl⟩
  cV:=fun i _ s l h1=>⟨l,h i _ h1,ud _⟩
  maps:=fun i _ es h1=>⟨es,h i _ h1⟩
  fH:=fun i _ ll RR s pe h1=>⟨s,pe,h i _ h1⟩}
 refine ⟨g,⟨⟨RE.size,RE.defers,fun t x hx=>(RE.slot t x (he t x hx)).mono E⟩,⟨R.inj,R.lt,fun i o h1=>R.key i o (h i o h1),fun i b o h1 h2=>(R.obj i b o h1 (h i o h2)).keep E rfl rfl,fun i s l h1 h2=>R.cP i s l (h i _ h1) h2,R.ed,R.fix.eS E⟩⟩,fun g0 cL w0 hm E0=>E0.trans E⟩
theorem On {env:List (Nat×AV)} {heap:List (Nat×aI)} {next:Nat} (P n:Nat) (hP:zc heap P=some (.af 1 (uc n [.nil]))) (hn:next≤qk) :
  ct ⟨env,heap,next⟩ ⟨env,zs heap P (.af 1 (qA zi (uc n [])))++qN (uc n []),2000000⟩:=by
 intro C nt g a w R
 obtain ⟨RE,R⟩:=R
 simp only at RE R
 have hPn:P < next:=R.key _ _ hP
 have hmk:qk=999999:=rfl
 have hnb:zi=1000000:=rfl
 have hg:∀ j o,zc (zs heap P (.af 1 (qA zi (uc n [])))++qN (uc n [])) j=some o →
   (j=P∧o=.af 1 (qA zi (uc n [])))∨(j≠P∧j < next∧zc heap j=some o)∨(j=qk∧o=.dead)∨(zi≤j∧j < 2000000∧o=.bf 1 0):=fun j o h=>by
  rw [xy,ze] at h
  by_cases e:P=j
  ·rw [if_pos e] at h;cases h;exact .inl ⟨e.symm,rfl⟩
  ·rw [if_neg e] at h
   cases h2:zc heap j with
   | some o'=>rw [h2,Option.some_or] at h;cases h;exact .inr (.inl ⟨fun e2=>e e2.symm,R.key _ _ h2,rfl⟩)
   | none=>
    rw [h2,uu,jM] at h
    split at h
    ·rename_i e3;cases h;exact .inr (.inr (.inl ⟨e3,rfl⟩))
    ·split at h
     ·rename_i e3
      rw [uj] at h
      split at h
      ·cases h;exact .inr (.inr (.inr ⟨e3.1,e3.2,rfl⟩))
      ·cases h
     ·cases h
 have hold:∀ j o,j < next→j≠P→zc (zs heap P (.af 1 (qA zi (uc n [])))++qN (uc n [])) j=some o→zc heap j=some o:=fun j o h1 h2 h3=>by
  rcases hg j o h3 with ⟨e,_⟩ | ⟨_,_,e⟩ | ⟨e,_⟩ | ⟨e,_⟩
  ·exact absurd e h2
  ·exact e
  ·omega
  ·omega
 have E:b9 g (zc heap) (· < next) w g (zc (zs heap P (.af 1 (qA zi (uc n [])))++qN (uc n []))) (· < 2000000) w:={b9.refl g (zc heap) (· < next) w with
  next:=fun i hi=>by have hi:i < next:=hi;show i < 2000000;omega
  ep:=fun i b hb _ _ _ _=>.inl hb
  cI:=fun i hb _ _ _ _=>.inl hb
  af:=fun i hi s r h1=>by
   rcases hg i _ h1 with ⟨e1,e2⟩ | ⟨_,_,e2⟩ | ⟨_,e2⟩ | ⟨_,_,e2⟩
   ·subst e1;cases e2;exact ⟨_,hP,by rw [Kf];simp⟩
   ·exact ⟨r,e2,rfl⟩
   ·cases e2
   ·cases e2
  cV:=fun i hi s l h1=>by
   have hi:i < next:=hi
   rcases hg i _ h1 with ⟨_,e2⟩ | ⟨_,_,e2⟩ | ⟨_,e2⟩ | ⟨e1,_,_⟩
   ·cases e2
   ·exact ⟨l,e2,ud _⟩
   ·cases e2
   ·omega
  maps:=fun i _ es h1=>by
   rcases hg i _ h1 with ⟨_,e2⟩ | ⟨_,_,e2⟩ | ⟨_,e2⟩ | ⟨_,_,e2⟩
   ·cases e2
   ·exact ⟨es,e2⟩
   ·cases e2
   ·cases e2
  fH:=fun i _ ll RR s pe h1=>by
   rcases hg i _ h1 with ⟨_,e2⟩ | ⟨_,_,e2⟩ | ⟨_,e2⟩ | ⟨_,_,e2⟩
   ·cases e2
   ·exact ⟨s,pe,e2⟩
   ·cases e2
   ·cases e2}
 refine ⟨g,⟨⟨RE.size,RE.defers,fun t x hx=>(RE.slot t x hx).mono E⟩,⟨R.inj,fun i b h1=>⟨(R.lt i b h1).1,E.next _ (R.lt i b h1).2⟩,fun i o h1 => ?_,fun i b o h1 h2 => ?_,fun i s l h1 h2 => ?_,R.ed,R.fix.eS E⟩⟩,fun g0 cL w0 hm E0=>E0.trans E⟩
 ·show i < 2000000
  rcases hg i o h1 with ⟨e1,_⟩ | ⟨_,e1,_⟩ | ⟨e1,_⟩ | ⟨_,e1,_⟩<;>omega
 ·rcases hg i o h2 with ⟨e1,e2⟩ | ⟨_,_,e2⟩ | ⟨e1,_⟩ | ⟨e1,_,_⟩
  ·subst e1 e2
   have hro:=R.obj _ b _ h1 hP
   simp only [dx] at hro ⊢
   obtain ⟨a1,c,e,a2,a3,a4⟩:=hro
   refine ⟨a1,c,e,a2,fun i r hi => ?_,fun i r j x hi hj => ?_⟩
   ·rw [yU] at hi
    obtain ⟨L,_,rfl⟩:=ul.1 hi
    rfl
   ·rw [yU] at hi
    obtain ⟨L,hL,rfl⟩:=ul.1 hi
    rw [uj] at hL
    split at hL
    ·rename_i hin
     cases hL
     have hj0:j=0:=by
      by_cases hb:zi+i < 2000000
      ·rw [ww hb] at hj
       cases j with
       | zero=>rfl
       | succ j=>simp at hj
      ·rw [yH hb] at hj
       cases j with
       | zero=>rfl
       | succ j=>simp at hj
     subst hj0
     obtain ⟨cv,b1,b2,b3⟩:=a4 i [.nil] 0 .nil (by rw [uj,if_pos hin]) rfl
     refine ⟨cv,b1,b2,?_⟩
     rw [xP b3]
     by_cases hb:zi+i < 2000000
     ·rw [ww hb] at hj
      simp only [uw,Option.some.injEq] at hj
      subst hj
      refine .aX _ _ _ .nil hb fun sz len fu => ?_
      have:sz=1∧len=0:=by
       rcases hg _ _ fu with ⟨e1,_⟩ | ⟨_,e1,_⟩ | ⟨e1,_⟩ | ⟨_,_,e2⟩
       ·omega
       ·omega
       ·omega
       ·cases e2;exact ⟨rfl,rfl⟩
      obtain ⟨rfl,rfl⟩:=this
      refine ⟨ud _,fun i row hi=>by simp at hi,fun _=>.inl ⟨?_,rfl⟩⟩
      cases hr:g.ρ (zi+i) with
      | none=>rfl
      | some bb=>
       have h5:zi+i < next:=(R.lt _ _ hr).2
       omega
     ·rw [yH hb] at hj
      simp only [uw,Option.some.injEq] at hj
      subst hj
      exact .ak _ _ .nil
    ·cases hL
  ·exact (R.obj i b o h1 e2).keep E rfl rfl
  ·have h5:i < next:=(R.lt i b h1).2
   omega
  ·have h5:i < next:=(R.lt i b h1).2
   omega
 ·rcases hg i _ h1 with ⟨_,e2⟩ | ⟨_,_,e2⟩ | ⟨_,e2⟩ | ⟨_,_,e2⟩
  ·cases e2
  ·exact R.cP i s l e2 h2
  ·cases e2
  ·cases e2;rfl
theorem G2:∀ (Ls:List (List Int)) (b:Nat),er (qA b Ls) (za (q8 zb) Ls)
 | [],_=>.nil
 | L::r,b=>by
  refine .cons ?_ (G2 r (b+1))
  by_cases hb:b < 2000000
  ·rw [ww hb];exact .cons (.bf _ _) .nil
  ·rw [yH hb];exact .cons (.refl _) .nil
end Go.Proofs.YtcmmhbmgpflmeaaGreatDoor
