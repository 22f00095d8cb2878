/-
  Regions run by the kernel: what is not decided by reckoning (tests, lengths, elements, answers of calls) is told ahead ('Orc'), and what is told is asked for as a list of facts.
  Forgetting, and the end of a function, by the kernel.
  Slices that are nil or not; renaming; copies of slices (slices.Clone).
  A slice with an owner that is written no more may be taken for data.
  Loops whose states have names that are found on the way; slices of slices that grow.
  A slice with an owner that will only grow may be taken for one that grows.
  The abstract machine: ranges over functions. The iterator's code is run where the loop stands; its calls of yield run the loop's body.
-/
import Derived.Test.YtlpmnmbebkdocaaGreatDoorTG04
open List renaming getElem?_eq_some_iff → ua, getElem?_map → ub, replicate → ud, map → ue, mem_cons → ug, map_cons → ui, mem_of_getElem? → uj, getElem?_set → uk, all_eq_true → ul, mem_flatMap → un, eq_nil_of_length_eq_zero → uq, mem_append → ur, take_of_length_le → uw, drop_zero → uz, getElem?_take → uC, getElem?_drop → uD, map_map → uE, length_map → uH, map_take → uI
open Option renaming map_eq_some_iff → uc, map_some → uy
open Bool renaming false_eq_true → uB
open Nat renaming le_refl → uh, lt_irrefl → um, mul_le_mul_right → uo, lt_of_lt_of_le → ut, zero_add → uv, le_trans → ux, add_mul → uA, lt_succ_self → uF, zero_le → uG, blt → uJ
open Array renaming getElem?_eq_some_iff → uu
namespace Go.Proofs.YtlpmnmbebkdocaaGreatDoor
open Go.RowKit
set_option linter.unusedSimpArgs false
set_option linter.unusedVariables false
section
inductive eS where
 | g (b:Bool)
 | n (k:Int)
 | r (row:List IV)
 | v (x:IV)
 | w (ids:List Nat) (dx:List IV) (x:IV)
 | s (af:List (List IV))
 | k (row:Nat)
 | ar (row:List AV)
 | aw (row:List AV) (af:List (List AV))
 | m (n:Nat) (af:List (List AV))
 | a (af:List (List IV)) (n:Nat)
 | b (af:List (List AV)) (n:Nat)
 | c (l:List Nat) (m:Nat) (r:AV) (aN:List (Nat×aD)) (d:Nat)
 | l (x:AV) (b:Bool)
 | u (es:List (IV×AV))
def Ge (af:List (List IV)) (n:Int) (row:List IV):Prop:=0≤n∧af[n.toNat]?=some row
def AS (af:List (List IV)) (k:Int):Prop:=(af.length:Int)=k
def Gf (af:List (List IV)) (sz:Nat) (a b:Int) (r:List (List IV)):Prop:=0≤a∧a≤b∧b≤(af.length:Int)∧(af.all fun row=>row.length == sz)=true∧(af.take b.toNat).drop a.toNat=r
def Y0 (op:BinOp) (a b r:IV):Prop:=yC op a b=some r
def X7 (n:Int) (off len row:Nat):Prop:=0≤n∧n < (len:Int)∧off+n.toNat=row
def Y1 (af:List (List AV)) (r:Nat) (row:List AV):Prop:=af[r]?=some row
def Gg (af:List (List AV)) (r:Nat) (row new:List AV) (dY:List (List AV)):Prop:=af[r]?=some row∧af.set r new=dY
def Dj (n:Int) (bI:Nat) (zero:List AV) (k:Nat) (af:List (List AV)):Prop:=(0≤n∧n < 2 ^ 31∧n*bI≤140737488355328)∧n.toNat=k∧ud k zero=af
def Gi (sz:Nat) (af new dY:List (List AV)) (len:Nat):Prop:=len=af.length∧new.length=len∧(new.all fun row=>row.length == sz)=true∧new=dY
def Dk (sz bI:Nat) (old new af:List (List IV)) (len k:Nat):Prop:=(new.all fun row=>row.length == sz)=true∧old.length=len∧(len+new.length)*bI≤140737488355328∧old++new=af∧len+new.length=k
def Gj (sz bI:Nat) (old new af:List (List AV)) (len k:Nat):Prop:=(new.all fun row=>row.length == sz)=true∧len=old.length∧(len+new.length)*bI≤140737488355328∧old++new=af∧len+new.length=k
def BU (str:Bool) (zero:AV) (k:IV) (es:List (IV×AV)) (x:AV) (b:Bool):Prop:=(wP str k&&xK k es)=true∧((qo k es=some x∧b=true)∨(qo k es=none∧zero=x∧b=false))
def Dl (str:Bool) (k:IV) (v:AV) (es es':List (IV×AV)):Prop:=(wP str k&&xK k es)=true∧qH k v es=es'
def Dm (str:Bool) (zero:AV) (k y:IV) (x:AV) (b:Bool):Prop:=∃ es,jw (fun _=>none) (.ap y)=some es∧BU str zero k es x b
def Gk (neg:Bool) (y r:IV):Prop:=∃ b,vF (fun _=>none) (.ap y)=some b∧r=.bool (if neg then !b else b)
def Dn (args:List AV) (bU:List (Nat×aD)) (dx:List IV):Prop:=aI (zC (za bU) 5) args=some dx
def Oo (D:List Nat):aZ→Bool
 | .t n=>D.contains n
 | .c _=>true
 | .m _ _=>false
abbrev xU:=Option (AV×List (Nat×aD)×List Nat×List eS×List Prop×Nat)
def jr (op:cO) (b8:List eS) (st:St):xU:=match ai op (zd st.env) (za st.heap) st.next with
 | some (r,aN)=>some (r,aN,zj op (zd st.env),b8,[],0)
 | none=>none
def Gl (op:cO) (b8:List eS) (st:St) (lit:Bool) (a b:AV):AV→xU
 | .ap (.bool x)=>match lit with
  | true=>match x with
   | true=>some (a,[],zj op (zd st.env),b8,[],0)
   | false=>some (b,[],zj op (zd st.env),b8,[],0)
  | false=>match b8 with
   | .g true::o=>some (a,[],zj op (zd st.env),o,[x=true],0)
   | .g false::o=>some (b,[],zj op (zd st.env),o,[x=false],0)
   | _=>none
 | _=>none
def Gn (op:cO) (b8:List eS) (st:St):AV→xU
 | .ap (.slice af) | .aS _ af=>match b8 with
  | .n k::o=>some (.ap (.int .i64 k),[],zj op (zd st.env),o,[AS af k],0)
  | _=>none
 | _=>jr op b8 st
def Gp (op:cO) (sz:Nat) (b8:List eS) (st:St) (i:AV):AV→xU
 | .ap (.slice af) | .aS _ af=>match i with
  | .ap (.int _ n)=>match b8 with
   | .r row::o=>if row.length=sz then some (.cE row,[],zj op (zd st.env),o,[Ge af n row],0) else none
   | _=>none
  | _=>none
 | .Zaj j off len=>match b8 with
  | .k row::o=>match i with
   | .ap (.int _ n)=>match za st.heap j with
    | some (.af sz' _)=>if sz'=sz then some (.ptr j row 0,[],zj op (zd st.env),o,[X7 n off len row],0) else none
    | _=>none
   | _=>none
  | _=>jr op b8 st
 | _=>jr op b8 st
def Gq (op:cO) (len sz:Nat) (b8:List eS) (st:St) (i x:AV):xU:=match b8 with
 | .k row::o=>match x with
  | .ptr j 0 0=>match i with
   | .ap (.int _ n)=>match za st.heap j with
    | some (.af sz' _)=>if sz'=sz then some (.ptr j row 0,[],zj op (zd st.env),o,[X7 n 0 len row],0) else none
    | _=>none
   | _=>none
  | _=>none
 | _=>jr op b8 st
def Gr (op:cO) (AT:BinOp) (b8:List eS) (st:St) (x y:AV):xU:=match AT with
 | .quo | .rem | .shl | .shr=>match x,y with
  | .ap a,.ap b=>match b8 with
   | .v r::o=>some (.ap r,[],zj op (zd st.env),o,[Y0 AT a b r],0)
   | _=>none
  | _,_=>none
 | _=>jr op b8 st
def BV (st:St) (dflt:Int):Option aZ→Option Int
 | none=>some dflt
 | some y=>match zd st.env y with
  | .ap (.int _ n)=>some n
  | _=>none
def Gs (op:cO) (sz:Nat) (b8:List eS) (st:St) (lo hi:Option aZ):AV→xU
 | .ap (.slice af)=>match BV st 0 lo,BV st (af.length:Int) hi,b8 with
  | some a,some b,.s r::o=>some (.ap (.slice r),[],zj op (zd st.env),o,[Gf af sz a b r],0)
  | _,_,_=>none
 | _=>none
def Dp (C:Ctx) (b8:List eS) (st:St) (args:List AV):AV→xU
 | .func f first bt=>match b8 with
  | .v x::o=>match aI (zC (za st.heap) 5) (first++args++bt) with
   | some dx=>match (first++args++bt).all (xb 5) with
    | true=>some (.ap x,[],[],o,[aJ C f dx x],0)
    | false=>none
   | none=>none
  | .w ids dx x::o=>match xy st.heap ids with
   | some bU=>match xL x with
    | true=>some (.ap x,[],ids,o,[aJ C f dx x,Dn (first++args++bt) bU dx],0)
    | false=>none
   | none=>none
  | .c l m r aN d::o=>match xy st.heap l with
   | some bU=>match yZ l m st.next with
    | true=>some (r,aN,l,o,[lT C f (first++args++bt) l m st.next bU r aN d],d)
    | false=>none
   | none=>none
  | _=>none
 | _=>none
def Gt (op:cO) (agg:Bool) (n:Nat) (b8:List eS) (st:St) (x:AV):xU:=match b8 with
 | .ar row::o=>match x with
  | .ptr i r f=>match za st.heap i with
   | some (.af _ af)=>match agg with
    | true=>if f+n≤row.length then some (.agg ((row.drop f).take n),[],zj op (zd st.env),o,[Y1 af r row],0) else none
    | false=>match row[f]? with
     | some c=>some (c,[],zj op (zd st.env),o,[Y1 af r row],0)
     | none=>none
   | _=>none
  | _=>none
 | _=>jr op b8 st
def Gu (op:cO) (n:Nat) (b8:List eS) (st:St) (x:AV) (v:Option (List AV)):xU:=match b8 with
 | .aw row dY::o=>match x with
  | .ptr i r f=>match v with
   | some cs=>match za st.heap i with
    | some (.af sz af)=>if cs.length=n∧f+n≤row.length then some (.undef,[(i,.af sz dY)],zj op (zd st.env),o,[Gg af r row (qX row f cs) dY],0) else none
    | _=>none
   | none=>none
  | _=>none
 | _=>jr op b8 st
def Gv (op:cO) (sz bI:Nat) (zero:List AV) (b8:List eS) (st:St) (x:AV):xU:=match b8 with
 | .m k af::o=>match x with
  | .ap (.int .i64 n)=>some (.Zaj st.next 0 k,[(st.next,.af sz af)],zj op (zd st.env),o,[Dj n bI zero k af],0)
  | _=>none
 | _=>jr op b8 st
def Gw (op:cO) (sz bI:Nat) (b8:List eS) (st:St) (x:AV) (s:AV):xU:=match b8 with
 | .a af k::o=>match xI (za st.heap) x with
  | some new=>match s with
   | .nil=>some (.aS st.next af,[(st.next,.aU sz k)],zj op (zd st.env),o,[Dk sz bI [] new af 0 k],0)
   | .aS i old=>match za st.heap i with
    | some (.aU sz' len)=>if sz'=sz then some (.aS i af,[(i,.aU sz k)],zj op (zd st.env),o,[Dk sz bI old new af len k],0) else none
    | _=>none
   | _=>none
  | none=>none
 | .b af k::o=>match jP (za st.heap) x with
  | some new=>match s with
   | .Zaj i off len=>match za st.heap i with
    | some (.af sz' old)=>if sz'=sz∧off=0 then some (.Zaj st.next 0 k,[(st.next,.af sz af),(i,.dead)],zj op (zd st.env),o,[Gj sz bI old new af len k],0) else none
    | _=>none
   | _=>none
  | none=>none
 | _=>jr op b8 st
def Gx (op:cO) (str:Bool) (zero:AV) (ok:Bool) (b8:List eS) (st:St) (k m:AV):xU:=match b8 with
 | .l x b::o=>match m,k with
  | .map i,.ap k=>match za st.heap i with
   | some (.map es)=>some (match ok with | true=>.tuple [x,.ap (.bool b)] | false=>x,[],zj op (zd st.env),o,[BU str zero k es x b],0)
   | _=>none
  | .ap y,.ap k=>some (match ok with | true=>.tuple [x,.ap (.bool b)] | false=>x,[],zj op (zd st.env),o,[Dm str zero k y x b],0)
  | _,_=>none
 | _=>jr op b8 st
def Gy (op:cO) (str:Bool) (b8:List eS) (st:St) (v k m:AV):xU:=match b8 with
 | .u es'::o=>match m,k with
  | .map i,.ap k=>match za st.heap i with
   | some (.map es)=>some (.undef,[(i,.map es')],zj op (zd st.env),o,[Dl str k (xJ v) es es'],0)
   | _=>none
  | _,_=>none
 | _=>jr op b8 st
def Gz (op:cO) (neg:Bool) (b8:List eS) (st:St) (x y:AV):xU:=match b8 with
 | .v r::o=>match x,y with
  | .ap a,.ap .cP=>some (.ap r,[],zj op (zd st.env),o,[Gk neg a r],0)
  | _,_=>none
 | _=>jr op b8 st
def GA (op:cO) (sz:Nat) (b8:List eS) (st:St) (x:AV) (d:AV):xU:=match b8 with
 | .b dY _::o=>match jP (za st.heap) x with
  | some new=>match d with
   | .Zaj i 0 len=>match za st.heap i with
    | some (.af sz' af)=>if sz'=sz then some (.ap (.int .i64 (len:Int)),[(i,.af sz dY)],zj op (zd st.env),o,[Gi sz af new dY len],0) else none
    | _=>none
   | _=>none
  | none=>none
 | _=>jr op b8 st
def GB (op:cO) (len sz:Nat) (b8:List eS) (st:St) (i x:AV):xU:=match b8 with
 | .k row::o=>match x with
  | .agg cs=>match i with
   | .ap (.int _ n)=>match cs[row]? with
    | some c=>if sz=1 then some (c,[],zj op (zd st.env),o,[X7 n 0 len row],0) else none
    | none=>none
   | _=>none
  | _=>none
 | _=>jr op b8 st
def gH (C:Ctx) (op:cO) (b8:List eS) (D:List Nat) (st:St):xU:=match op with
 | .pick c a b=>Gl op b8 st (Oo D c) (zd st.env a) (zd st.env b) (zd st.env c)
 | .len x=>Gn op b8 st (zd st.env x)
 | .idx sz x i=>Gp op sz b8 st (zd st.env i) (zd st.env x)
 | .idxa len sz x i=>Gq op len sz b8 st (zd st.env i) (zd st.env x)
 | .bin AT x y=>Gr op AT b8 st (zd st.env x) (zd st.env y)
 | .slc sz x lo hi=>Gs op sz b8 st lo hi (zd st.env x)
 | .call f args=>Dp C b8 st (args.map (zd st.env)) (zd st.env f)
 | .load agg n x=>Gt op agg n b8 st (zd st.env x)
 | .store n x v=>Gu op n b8 st (zd st.env x) (cellsOf (zd st.env v))
 | .mks sz bI zero n=>Gv op sz bI zero b8 st (zd st.env n)
 | .app sz bI s x=>Gw op sz bI b8 st (zd st.env x) (zd st.env s)
 | .look str zero ok m k=>Gx op str zero ok b8 st (zd st.env k) (zd st.env m)
 | .upd str m k v=>Gy op str b8 st (zd st.env v) (zd st.env k) (zd st.env m)
 | .eqnm neg x y=>Gz op neg b8 st (zd st.env x) (zd st.env y)
 | .copy sz d x=>GA op sz b8 st (zd st.env x) (zd st.env d)
 | .ixa len sz x i=>GB op len sz b8 st (zd st.env i) (zd st.env x)
 | op=>jr op b8 st
def Xc (gd:Option (Nat×Bool)) (b8:List eS) (D:List Nat) (st:St):Option (Bool×List eS×List Prop×List Nat×St):=match gd with
 | none=>some (true,b8,[],D,st)
 | some (t,want)=>match (za st.env t).getD .top with
  | .undef=>some (false,b8,[],D,st)
  | .ap (.bool b)=>match D.contains t with
   | true=>match b with
    | true=>some (want,b8,[],D,st)
    | false=>some (!want,b8,[],D,st)
   | false=>match b8 with
    | .g true::o=>some (want,o,[b=true],t::D,{st with env:=zk st.env t (.ap (.bool true))})
    | .g false::o=>some (!want,o,[b=false],t::D,{st with env:=zk st.env t (.ap (.bool false))})
    | _=>none
  | _=>none
def Oq (dr:Option (List Nat)) (j:Nat) (W R:List (Nat×Nat)) (aN:List (Nat×aD)) (rd:List Nat) (d:Nat):Bool:=match dr with
 | none=>true
 | some ord=>d == 0&&xh ord j W R (z6 aN) rd
def St.mP (st:St) (dst:Option Nat) (r:AV) (aN:List (Nat×aD)) (d:Nat):St:=
 St.put {st with heap:=zL aN st.heap,next:=st.next+d+1} dst r
def X8 (D:List Nat):Option Nat→List Nat
 | some d=>D.filter (· != d)
 | none=>D
def Y2 (C:Ctx) (dr:Option (List Nat)):List aM→Nat→List (Nat×Nat)→List (Nat×Nat)→List eS→List Nat→St→Option (St×List Prop)
 | [],_,_,_,b8,_,st=>match b8 with
  | []=>some (st,[])
  | _=>none
 | it::rest,j,W,R,b8,D,st=>match Xc it.guard b8 D st with
  | none=>none
  | some (false,o,ps,D',aX)=>match Y2 C dr rest (j+1) W R o (X8 D' it.dst) (aX.after it.dst .undef []) with
   | some (s,qs)=>some (s,ps++qs)
   | none=>none
  | some (true,o,ps,D',aX)=>match gH C it.op o D' aX with
   | none=>none
   | some (r,aN,rd,o',ps',d)=>match Oq dr j W R aN rd d with
    | false=>none
    | true=>match Y2 C dr rest (j+1) (qY j (z6 aN) W) (qY j rd R) o' (X8 D' it.dst) (aX.mP it.dst r aN d) with
     | some (s,qs)=>some (s,ps++(ps'++qs))
     | none=>none
section
variable {C:Ctx}
theorem Jh {α:Type}:∀ {l:List (Nat×α)} {t:Nat} {x:α},za l t=some x→zk l t x=l
 | [],t,x,h=>by cases h
 | (k,v)::r,t,x,h=>by
  simp only [za] at h
  simp only [zk]
  split at h
  ·rename_i e;subst e;cases h;simp
  ·rename_i e;rw [if_neg e,Jh h]
theorem qm {op:cO} {b8 o':List eS} {st:St} {r:AV} {aN:List (Nat×aD)} {rd:List Nat} {ps:List Prop} {d:Nat} (h:jr op b8 st=some (r,aN,rd,o',ps,d)) :
  ai op (zd st.env) (za st.heap) st.next=some (r,aN)∧rd=zj op (zd st.env)∧d=0:=by
 unfold jr at h
 split at h
 ·rename_i e;cases h;exact ⟨e,rfl,rfl⟩
 ·cases h
def fR:cO→Bool
 | .call _ _=>true
 | _=>false
theorem Ot {st:St} {sz id:Nat} {x:aZ} {lo hi:Option aZ} {af:List (List IV)} {h:Nat→Option aD} (hx:zd st.env x=.ap (.slice af)):ai (.slc sz x lo hi) (zd st.env) h id=match BV st 0 lo,BV st (af.length:Int) hi with
  | some a,some b=>if 0≤a∧a≤b∧b≤(af.length:Int)∧(af.all fun row=>row.length == sz)=true then some (.ap (.slice ((af.take b.toNat).drop a.toNat)),[]) else none
  | _,_=>none:=by
 simp only [ai,hx]
 cases lo<;>cases hi<;>rfl
theorem GC {op:cO} {b8 o':List eS} {D:List Nat} {st:St} {r:AV} {aN:List (Nat×aD)} {rd:List Nat} {ps:List Prop} {d:Nat} (hc:fR op=false) (h:gH C op b8 D st=some (r,aN,rd,o',ps,d)) (hp:cK ps) :
  ai op (zd st.env) (za st.heap) st.next=some (r,aN)∧rd=zj op (zd st.env)∧d=0:=by
 cases op
 case call=>cases hc
 case pick c a b=>
  simp only [gH] at h
  unfold Gl at h
  simp only [ai]
  split at h
  ·rename_i x hx
   split at h
   ·split at h<;>(cases h;rw [hx];exact ⟨rfl,rfl,rfl⟩)
   ·split at h
    ·cases h;have:=hp.one;subst this;rw [hx];exact ⟨rfl,rfl,rfl⟩
    ·cases h;have:=hp.one;subst this;rw [hx];exact ⟨rfl,rfl,rfl⟩
    ·cases h
  ·cases h
 case len x=>
  simp only [gH] at h
  unfold Gn at h
  split at h
  ·rename_i af hx
   split at h
   ·cases h
    have:=hp.one
    refine ⟨?_,rfl,rfl⟩
    simp only [ai,wv,hx]
    unfold AS at this
    rw [this]
   ·cases h
  ·rename_i af hx
   split at h
   ·cases h
    have:=hp.one
    refine ⟨?_,rfl,rfl⟩
    simp only [ai,wv,hx]
    unfold AS at this
    rw [this]
   ·cases h
  ·exact qm h
 case idx sz x i=>
  simp only [gH] at h
  unfold Gp at h
  split at h
  ·rename_i af hx
   split at h
   ·rename_i k n hi
    split at h
    ·split at h
     ·rename_i hl
      cases h
      have:=hp.one
      refine ⟨?_,rfl,rfl⟩
      simp only [ai,hx,hi,if_pos this.1,this.2,if_pos hl]
     ·cases h
    ·cases h
   ·cases h
  ·rename_i af hx
   split at h
   ·rename_i k n hi
    split at h
    ·split at h
     ·rename_i hl
      cases h
      have:=hp.one
      refine ⟨?_,rfl,rfl⟩
      simp only [ai,hx,hi,if_pos this.1,this.2,if_pos hl]
     ·cases h
    ·cases h
   ·cases h
  ·rename_i j off len hx
   split at h
   ·split at h
    ·rename_i k n hi
     split at h
     ·rename_i sz' af ho
      split at h
      ·rename_i hsz
       cases h
       obtain ⟨h1,h2,h3⟩:=hp.one
       refine ⟨?_,rfl,rfl⟩
       simp only [ai,hx,hi,ho]
       rw [if_pos ⟨hsz,h1,h2⟩,h3]
      ·cases h
     ·cases h
    ·cases h
   ·exact qm h
  ·exact qm h
 case idxa len sz x i=>
  simp only [gH] at h
  unfold Gq at h
  split at h
  ·split at h
   ·rename_i j hx
    split at h
    ·rename_i k n hi
     split at h
     ·rename_i sz' af ho
      split at h
      ·rename_i hsz
       cases h
       obtain ⟨h1,h2,h3⟩:=hp.one
       refine ⟨?_,rfl,rfl⟩
       simp only [ai,hx,hi,ho]
       rw [if_pos ⟨hsz,h1,h2⟩,←h3,uv]
      ·cases h
     ·cases h
    ·cases h
   ·cases h
  ·exact qm h
 case bin AT x y=>
  simp only [gH] at h
  unfold Gr at h
  split at h
  all_goals first
   | exact qm h
   | skip
  all_goals
   split at h
   ·rename_i a b hx hy
    split at h
    ·cases h
     have:=hp.one
     unfold Y0 at this
     refine ⟨?_,rfl,rfl⟩
     simp only [ai,hx,hy,this,uy]
    ·cases h
   ·cases h
 case slc sz x lo hi=>
  simp only [gH] at h
  unfold Gs at h
  split at h
  ·rename_i af hx
   split at h
   ·rename_i a b r' o ha hb
    cases h
    obtain ⟨h1,h2,h3,h4,h5⟩:=hp.one
    refine ⟨?_,rfl,rfl⟩
    rw [Ot hx,ha,hb]
    simp only
    rw [if_pos ⟨h1,h2,h3,h4⟩,h5]
   ·cases h
  ·cases h
 case load agg n x=>
  simp only [gH] at h
  unfold Gt at h
  split at h
  ·split at h
   ·rename_i i Ou f hx
    split at h
    ·rename_i sz af ho
     split at h
     ·split at h
      ·rename_i hle
       cases h
       have h1:=hp.one
       unfold Y1 at h1
       refine ⟨?_,rfl,rfl⟩
       simp only [ai,hx,ho,h1,if_true]
       rw [if_pos hle]
      ·cases h
     ·split at h
      ·rename_i c hcell
       cases h
       have h1:=hp.one
       unfold Y1 at h1
       refine ⟨?_,rfl,rfl⟩
       simp only [ai,hx,ho,h1,hcell,uy,uB,if_false]
      ·cases h
    ·cases h
   ·cases h
  ·exact qm h
 case store n x v=>
  simp only [gH] at h
  unfold Gu at h
  split at h
  ·split at h
   ·rename_i i Ou f hx
    split at h
    ·rename_i cs hcs
     split at h
     ·rename_i sz af ho
      split at h
      ·rename_i hle
       cases h
       obtain ⟨h1,h2⟩:=hp.one
       refine ⟨?_,rfl,rfl⟩
       simp only [ai,hx,hcs,ho,h1]
       rw [if_pos hle,h2]
      ·cases h
     ·cases h
    ·cases h
   ·cases h
  ·exact qm h
 case mks sz bI zero n=>
  simp only [gH] at h
  unfold Gv at h
  split at h
  ·split at h
   ·rename_i k af o n' hx
    cases h
    obtain ⟨h1,h2,h3⟩:=hp.one
    refine ⟨?_,rfl,rfl⟩
    simp only [ai,hx]
    rw [if_pos h1,h2,h3]
   ·cases h
  ·exact qm h
 case app sz bI s x=>
  simp only [gH] at h
  unfold Gw at h
  split at h
  ·split at h
   ·rename_i new hnew
    split at h
    ·rename_i hs
     cases h
     obtain ⟨h1,h2,h3,h4,h5⟩:=hp.one
     refine ⟨?_,rfl,rfl⟩
     simp only [ai,hs,JO,hnew,h1]
     simp only [List.nil_append] at h4
     subst h4
     simp only [uv] at h3 h5
     subst h5
     simp [h3]
    ·rename_i i old hs
     split at h
     ·rename_i sz' len ho
      split at h
      ·rename_i hsz
       cases h
       obtain ⟨h1,h2,h3,h4,h5⟩:=hp.one
       refine ⟨?_,rfl,rfl⟩
       simp only [ai,hs,JO,hnew,h1,ho]
       subst h4 h5
       simp [hsz,h2,h3]
      ·cases h
     ·cases h
    ·cases h
   ·cases h
  ·split at h
   ·rename_i new hnew
    split at h
    ·rename_i i off len hs
     split at h
     ·rename_i sz' old ho
      split at h
      ·rename_i hsz
       cases h
       obtain ⟨h1,h2,h3,h4,h5⟩:=hp.one
       refine ⟨?_,rfl,rfl⟩
       simp only [ai,hs,QZ,hnew,h1,ho]
       simp only [Bool.not_true,uB,if_false]
       rw [if_pos ⟨hsz.1,hsz.2,h2,h3⟩,h4,h5]
      ·cases h
     ·cases h
    ·cases h
   ·cases h
  ·exact qm h
 case look str zero ok m k=>
  simp only [gH] at h
  unfold Gx at h
  split at h
  ·split at h
   ·rename_i i kk hm hk
    split at h
    ·rename_i es ho
     cases h
     obtain ⟨h1,h2⟩:=hp.one
     refine ⟨?_,rfl,rfl⟩
     simp only [ai,jw,hm,hk,ho,h1,if_true]
     rcases h2 with ⟨h3,h4⟩ | ⟨h3,h4,h5⟩
     ·rw [h3,h4];cases ok<;>rfl
     ·rw [h3,h4,h5];cases ok<;>rfl
    ·cases h
   ·rename_i y kk hm hk
    cases h
    obtain ⟨es,h0,h1,h2⟩:=hp.one
    refine ⟨?_,rfl,rfl⟩
    have h0':jw (za st.heap) (.ap y)=some es:=by
     revert h0
     unfold jw
     cases y<;>exact fun h=>h
    simp only [ai,hm,h0',hk,h1,if_true]
    rcases h2 with ⟨h3,h4⟩ | ⟨h3,h4,h5⟩
    ·rw [h3,h4];cases ok<;>rfl
    ·rw [h3,h4,h5];cases ok<;>rfl
   ·cases h
  ·exact qm h
 case upd str m k v=>
  simp only [gH] at h
  unfold Gy at h
  split at h
  ·split at h
   ·rename_i i kk hm hk
    split at h
    ·rename_i es ho
     cases h
     obtain ⟨h1,h2⟩:=hp.one
     refine ⟨?_,rfl,rfl⟩
     simp only [ai,hm,hk,ho,h1,if_true,h2]
    ·cases h
   ·cases h
  ·exact qm h
 case eqnm neg x y=>
  simp only [gH] at h
  unfold Gz at h
  split at h
  ·split at h
   ·rename_i a hx hy
    cases h
    obtain ⟨b,h0,h1⟩:=hp.one
    refine ⟨?_,rfl,rfl⟩
    have h0':vF (za st.heap) (.ap a)=some b:=by
     revert h0
     unfold vF
     cases a<;>exact fun h=>h
    simp only [ai,hy,hx,h0',h1]
   ·cases h
  ·exact qm h
 case copy sz d x=>
  simp only [gH] at h
  unfold GA at h
  split at h
  ·split at h
   ·rename_i new hnew
    split at h
    ·rename_i i len hd
     split at h
     ·rename_i sz' af ho
      split at h
      ·rename_i hsz
       cases h
       obtain ⟨h1,h2,h3,h4⟩:=hp.one
       refine ⟨?_,rfl,rfl⟩
       simp only [ai,BJ,hd,ho,hnew]
       rw [if_pos ⟨hsz,h1,h2,h3⟩,h4]
      ·cases h
     ·cases h
    ·cases h
   ·cases h
  ·exact qm h
 case ixa len sz x i=>
  simp only [gH] at h
  unfold GB at h
  split at h
  ·split at h
   ·rename_i cs hx
    split at h
    ·rename_i k n hi
     split at h
     ·rename_i c hc
      split at h
      ·rename_i hsz
       cases h
       obtain ⟨h1,h2,h3⟩:=hp.one
       refine ⟨?_,rfl,rfl⟩
       simp only [ai,hx,hi]
       rw [uv] at h3
       rw [if_pos ⟨hsz,h1,h2⟩,h3,hc]
       rfl
      ·cases h
     ·cases h
    ·cases h
   ·cases h
  ·exact qm h
 all_goals exact qm h
theorem GD {C:bz} {op:cO} {b8 o':List eS} {D:List Nat} {st:St} {r:AV} {aN:List (Nat×aD)} {rd:List Nat} {ps:List Prop} {d:Nat} {dst:Option Nat} {K:St→Prop} (h:gH C op b8 D st=some (r,aN,rd,o',ps,d)) (hp:cK ps) (hK:K (st.mP dst r aN d)) :
  bX C dst K st op:=by
 cases hc:fR op
 ·obtain ⟨e,_,rfl⟩:=GC hc h hp
  cases op<;>first | (cases hc;done) | (simp only [bX];rw [e];exact hK)
 ·cases op<;>first | (cases hc;done) | skip
  rename_i f args
  simp only [gH] at h
  unfold Dp at h
  split at h
  ·rename_i f' first bt hf
   simp only [bX,hf]
   split at h
   ·split at h
    ·rename_i dx hiv
     split at h
     ·rename_i hm;cases h;exact bH.pure (d:=5) hp.one hm hiv hK
     ·cases h
    ·cases h
   ·split at h
    ·rename_i bU ho
     split at h
     ·rename_i hm
      cases h
      cases hp with
      | cons h1 h2=>exact bH.oe (d:=5) h1 (Jf (Jg ho) h2.one) hm hK
     ·cases h
    ·cases h
   ·split at h
    ·rename_i bU ho
     split at h
     ·rename_i hm
      cases h
      exact bH.dA hp.one hm ho hK
     ·cases h
    ·cases h
   ·cases h
  ·cases h
theorem yK {gd:Option (Nat×Bool)} {b8 o:List eS} {D D':List Nat} {st aX:St} {b:Bool} {ps:List Prop} (h:Xc gd b8 D st=some (b,o,ps,D',aX)) (hp:cK ps):aX=st∧z8 st.env gd=some b:=by
 unfold Xc at h
 split at h
 ·cases h;exact ⟨rfl,rfl⟩
 ·rename_i t want
  split at h
  ·rename_i e;cases h;exact ⟨rfl,by simp only [z8,e]⟩
  ·rename_i x e
   have cZ:za st.env t=some (.ap (.bool x)):=by
    cases h1:za st.env t with
    | none=>rw [h1] at e;cases e
    | some y=>rw [h1] at e;simp only [Option.getD_some] at e;rw [e]
   split at h
   ·split at h
    ·cases h;exact ⟨rfl,by simp only [z8,e];cases b<;>rfl⟩
    ·cases h;exact ⟨rfl,by simp only [z8,e];cases want<;>rfl⟩
   ·split at h
    ·cases h;have:=hp.one;subst this;exact ⟨by rw [Jh cZ],by simp only [z8,e];cases b<;>rfl⟩
    ·cases h;have:=hp.one;subst this;exact ⟨by rw [Jh cZ],by simp only [z8,e];cases want<;>rfl⟩
    ·cases h
  ·cases h
theorem Y3 {C:bz} {it:aM} {st:St} {b:Bool} {K:St→Prop} (hg:z8 st.env it.guard=some b) (h1:b=true→bX C it.dst K st it.op) (h2:b=false→K (st.after it.dst .undef [])):J6 C it K st:=by
 unfold J6
 cases hgd:it.guard with
 | none=>rw [hgd] at hg;simp only [z8,Option.some.injEq] at hg;exact h1 hg.symm
 | some p=>
  obtain ⟨t,want⟩:=p
  rw [hgd] at hg
  simp only [z8] at hg
  simp only [J5]
  split at hg
  ·rename_i x e
   rw [e]
   simp only [Option.some.injEq] at hg
   simp only
   rw [hg]
   cases b
   ·exact h2 rfl
   ·exact h1 rfl
  ·rename_i e
   rw [e]
   simp only [Option.some.injEq] at hg
   exact h2 hg.symm
  ·cases hg
theorem Y4 {C:bz}:∀ {items:List aM} {j:Nat} {W R:List (Nat×Nat)} {b8:List eS} {D:List Nat} {st aX:St} {ps:List Prop} {K:St→Prop},Y2 C none items j W R b8 D st=some (aX,ps)→cK ps→K aX→mj C items K st
 | [],j,W,R,b8,D,st,aX,ps,K,h,hp,hK=>by
  simp only [Y2] at h
  split at h
  ·cases h;exact hK
  ·cases h
 | it::rest,j,W,R,b8,D,st,aX,ps,K,h,hp,hK=>by
  simp only [Y2] at h
  split at h
  ·cases h
  ·rename_i o qs D' s hg
   split at h
   ·rename_i s2 rs hr
    cases h
    obtain ⟨p1,p2⟩:=hp.app
    obtain ⟨rfl,hgd⟩:=yK hg p1
    exact Y3 hgd (fun h=>by cases h) (fun _=>Y4 hr p2 hK)
   ·cases h
  ·rename_i o qs D' s hg
   split at h
   ·cases h
   ·rename_i r aN rd o' ps' d hop
    split at h
    ·cases h
    ·split at h
     ·rename_i s2 rs hr
      cases h
      obtain ⟨p1,p2⟩:=hp.app
      obtain ⟨p3,p4⟩:=p2.app
      obtain ⟨rfl,hgd⟩:=yK hg p1
      exact Y3 hgd (fun _=>GD hop p3 (Y4 hr p4 hK)) (fun h=>by cases h)
     ·cases h
theorem Ov (ord:List Nat) (j:Nat) (W R:List (Nat×Nat)):xh ord j W R [] []=true:=by
 simp [xh]
def GF (C:Ctx) (dr:Option (List Nat)) (items:List aM) (ks:List Nat) (b8:List eS) (st:St):Option (St×List Prop):=match Y2 C dr items 0 [] [] b8 [] st with
 | some (s,ps)=>some (s.keep (some ks),ps)
 | none=>none
theorem qR {C:bz} {nt:Fr} {o:List Nat} {items:List aM} {ks:List Nat} {K:Exit→St→Prop} {st aX:St} (b8:List eS) {ps:List Prop} (hp:cK ps) (hK:K .normal aX) (h:GF C none items ks b8 st=some (aX,ps)):cB C nt (.region false o items (some ks)) K st:=by
 unfold GF at h
 split at h
 ·rename_i s qs hr
  cases h
  exact yn (Y4 hr hp hK)
 ·cases h
end
theorem Ow {α:Type} (f:α→List IV) (l:List α):AS (ue f l) (l.length:Int):=by simp [AS]
theorem Ox {α:Type} (f:α→List IV) {l:List α} {n:Int} {e:α} (h:ze l n=some e):Ge (ue f l) n (f e):=by
 obtain ⟨h1,h2,_⟩:=Xa h
 exact ⟨h1,by simp [h2]⟩
theorem Oy {α:Type} (f:α→List IV) (sz:Nat) (hf:∀ x,(f x).length=sz) {l e:List α} {a b:Int} (h:W4 l a b=some e):Gf (ue f l) sz a b (ue f e):=by
 obtain ⟨h1,h2,h3,h4⟩:=Oe h
 exact ⟨h1,h2,by simpa using h3,by simp [hf],by rw [←h4];simp [uI,List.map_drop]⟩
theorem Oz {k:IntKind} {a b e:Int} (h:Je k a b=some e):Y0 .rem (.int k a) (.int k b) (.int k e):=by
 obtain ⟨h1,h2⟩:=Of h
 simp [Y0,h1,h2]
section
variable {α β:Type}
def zh (len:Nat) (n:Int):Option Nat:=if 0≤n∧n < (len:Int) then some n.toNat else none
theorem zn {len k:Nat} {n:Int} (h:zh len n=some k):X7 n 0 len k:=by
 unfold zh at h;split at h
 ·rename_i hh;cases h;exact ⟨hh.1,hh.2,by omega⟩
 ·cases h
theorem zR (f:α→List IV) {l:List α} {k:Nat} {e:α} (h:l[k]?=some e):Y1 (zb f l) k (zu (f e)):=by
 unfold Y1 zb;rw [ub,h];rfl
theorem zN (f:α→List IV) {l:List α} {k:Nat} {e:α} (e':α) (h:l[k]?=some e):Gg (zb f l) k (zu (f e)) (zu (f e')) (zb f (l.set k e')):=by
 refine ⟨zR f h,?_⟩
 simp only [zb,List.map_set]
theorem X9 {l:List α} {k:Nat} {e:α} (e':α) (h:l[k]?=some e):(l.set k e')[k]?=some e':=by
 obtain ⟨hk,_⟩:=ua.1 h
 simp [hk]
def ef (bI:Nat) (n:Int):Option Nat:=if 0≤n∧n < 2 ^ 31∧n*bI≤140737488355328 then some n.toNat else none
theorem xz (f:α→List IV) (z:α) {bI k:Nat} {n:Int} (h:ef bI n=some k):Dj n bI (zu (f z)) k (zb f (ud k z)):=by
 unfold ef at h;split at h
 ·rename_i hh;cases h;exact ⟨hh,rfl,by simp [zb]⟩
 ·cases h
theorem KY (row:List AV) {bI k:Nat} {n:Int} (h:ef bI n=some k):Dj n bI row k (ud k row):=by
 unfold ef at h;split at h
 ·rename_i hh;cases h;exact ⟨hh,rfl,rfl⟩
 ·cases h
def xZ (k:Nat) (d l:List α):Option (List α):=if k=d.length∧l.length=k then some l else none
theorem OA {k:Nat} {d l e:List α} (h:xZ k d l=some e):k=d.length∧l.length=k∧e=l:=by
 unfold xZ at h;split at h
 ·rename_i hh;cases h;exact ⟨hh.1,hh.2,rfl⟩
 ·cases h
theorem Xd (f:α→List IV) (sz:Nat) (hf:∀ x,(f x).length=sz) {k:Nat} {d l e:List α} (h:xZ k d l=some e):Gi sz (zb f d) (ue (ue AV.ap) (ue f l)) (zb f e) k:=by
 obtain ⟨h1,h2,rfl⟩:=OA h
 refine ⟨by simpa [zb] using h1,by simpa using h2,by simp [hf],?_⟩
 simp only [zb,uE];congr 1
def zO (bI:Nat) (l m:List α):Option (List α):=if (l.length+m.length)*bI≤140737488355328 then some (l++m) else none
theorem qt (f:α→List IV) (sz bI:Nat) (hf:∀ x,(f x).length=sz) {l m e:List α} (h:zO bI l m=some e):Dk sz bI (ue f l) (ue f m) (ue f e) l.length e.length:=by
 unfold zO at h;split at h
 ·rename_i hh;cases h;exact ⟨by simp [hf],by simp,by simpa using hh,by simp,by simp⟩
 ·cases h
def kF (bI:Nat) (l m:List α):Option (List α):=if (l.length+m.length)*bI≤140737488355328 then some (l++m) else none
theorem Xe (f:α→List IV) (sz bI:Nat) (hf:∀ x,(f x).length=sz) {l m e:List α} (h:kF bI l m=some e):Gj sz bI (zb f l) (ue (ue AV.ap) (ue f m)) (zb f e) l.length e.length:=by
 unfold kF at h;split at h
 ·rename_i hh
  cases h
  refine ⟨by simp [hf],by simp [zb],by simpa using hh,?_,by simp⟩
  simp only [zb,List.map_append,uE]
  congr 1
 ·cases h
end
def IV.i64 (n:Int):IV:=.int .i64 n
theorem jy (args:List AV) (bU:List (Nat×aD)) (dx:List IV) (h:aI (zC (za bU) 5) args=some dx):Dn args bU dx:=h
def Xf (k k':IntKind) (a b:Int):Option Int:=if b < 0 then none else some (a.fdiv (2 ^ (min b.toNat k.bits)))
theorem OB {k k':IntKind} {a b e:Int} (h:Xf k k' a b=some e):Y0 .shr (.int k a) (.int k' b) (.int k e):=by
 unfold Xf at h
 split at h
 ·cases h
 ·rename_i hb;cases h;simp [Y0,hb]
def zl {α β:Type} [DecidableEq α] (k:α):List (α×β)→Option β
 | []=>none
 | (k',v)::r=>if k=k' then some v else zl k r
def zJ {α β:Type} [DecidableEq α] (k:α) (v:β):List (α×β)→List (α×β)
 | []=>[(k,v)]
 | (k',v')::r=>if k=k' then (k,v)::r else (k',v')::zJ k v r
theorem kS {β:Type} (vf:β→IV) (k:Int) (es:List (Int×β)):xK (.int .i64 k) (zp IV.i64 vf es)=true:=by
 simp [xK,zp,IV.i64,jY]
theorem wS {β:Type} (vf:β→IV) (k:Int):∀ es:List (Int×β),qo (.int .i64 k) (zp IV.i64 vf es)=(zl k es).map fun v=>.ap (vf v)
 | []=>rfl
 | (k',v)::r=>by
  have ih:=wS vf k r
  simp only [zp,ui,qo,IV.i64,jY,if_true,zl] at ih ⊢
  by_cases e:k=k'
  ·subst e;simp
  ·simp only [beq_eq_false_iff_ne.2 e,if_neg e];exact ih
theorem Xg {β:Type} (vf:β→IV) (k:Int) (x:β):∀ es:List (Int×β),qH (.int .i64 k) (.ap (vf x)) (zp IV.i64 vf es)=zp IV.i64 vf (zJ k x es)
 | []=>rfl
 | (k',v)::r=>by
  have ih:=Xg vf k x r
  simp only [zp,ui,qH,IV.i64,jY,if_true,zJ] at ih ⊢
  by_cases e:k=k'
  ·subst e;simp
  ·simp only [beq_eq_false_iff_ne.2 e,if_neg e,ui];rw [ih]
theorem Xh {β:Type} (vf:β→IV) (z:β) (k:Int) (es:List (Int×β)):BU false (.ap (vf z)) (.int .i64 k) (zp IV.i64 vf es) (.ap (vf ((zl k es).getD z))) (zl k es).isSome:=by
 refine ⟨by rw [kS];rfl,?_⟩
 rw [wS]
 cases zl k es with
 | none=>exact .inr ⟨rfl,rfl,rfl⟩
 | some v=>exact .inl ⟨rfl,rfl⟩
theorem W5 {β:Type} (vf:β→IV) (k:Int) (x:β) (es:List (Int×β)):Dl false (.int .i64 k) (.ap (vf x)) (zp IV.i64 vf es) (zp IV.i64 vf (zJ k x es)):=
 ⟨by rw [kS];rfl,Xg vf k x es⟩
theorem VX (a b:ByteArray):(a == b)=decide (a=b):=by
 obtain ⟨a⟩:=a
 obtain ⟨b⟩:=b
 rw [Bool.eq_iff_iff,decide_eq_true_iff]
 show (a == b)=true↔_
 simp
theorem VY {β:Type} (vf:β→IV) (k:ByteArray) (es:List (ByteArray×β)):xK (.str k) (zp IV.str vf es)=true:=by
 simp [xK,zp,jY]
theorem JI {β:Type} (vf:β→IV) (k:ByteArray):∀ es:List (ByteArray×β),qo (.str k) (zp IV.str vf es)=(zl k es).map fun v=>.ap (vf v)
 | []=>rfl
 | (k',v)::r=>by
  have ih:=JI vf k r
  simp only [zp,ui,qo,jY,zl] at ih ⊢
  by_cases e:k=k'
  ·subst e;simp [VX]
  ·simp only [VX,decide_eq_false e,if_neg e];exact ih
theorem Xi {β:Type} (vf:β→IV) (k:ByteArray) (x:β):∀ es:List (ByteArray×β),qH (.str k) (.ap (vf x)) (zp IV.str vf es)=zp IV.str vf (zJ k x es)
 | []=>rfl
 | (k',v)::r=>by
  have ih:=Xi vf k x r
  simp only [zp,ui,qH,jY,zJ] at ih ⊢
  by_cases e:k=k'
  ·subst e;simp [VX]
  ·simp only [VX,decide_eq_false e,if_neg e,ui];rw [ih]
theorem vP {β:Type} (vf:β→IV) (z:β) (k:ByteArray) (es:List (ByteArray×β)):BU true (.ap (vf z)) (.str k) (zp IV.str vf es) (.ap (vf ((zl k es).getD z))) (zl k es).isSome:=by
 refine ⟨by rw [VY];rfl,?_⟩
 rw [JI]
 cases zl k es with
 | none=>exact .inr ⟨rfl,rfl,rfl⟩
 | some v=>exact .inl ⟨rfl,rfl⟩
theorem we {β:Type} (vf:β→IV) (k:ByteArray) (x:β) (es:List (ByteArray×β)):Dl true (.str k) (.ap (vf x)) (zp IV.str vf es) (zp IV.str vf (zJ k x es)):=
 ⟨by rw [VY];rfl,Xi vf k x es⟩
def qN {α β:Type} (kf:α→IV) (vf:β→IV):Option (List (α×β))→IV
 | none=>.cP
 | some es=>.eI (es.map fun e=>(kf e.1,vf e.2))
theorem OC {α β:Type} (kf:α→IV) (vf:β→IV) (e:Option (List (α×β))):jw (fun _=>none) (.ap (qN kf vf e))=some (zp kf vf (e.getD [])):=by
 cases e with
 | none=>rfl
 | some es=>simp [qN,jw,zp]
theorem VZ {β:Type} (vf:β→IV) (z:β) (k:Int) (e:Option (List (Int×β))):Dm false (.ap (vf z)) (.int .i64 k) (qN IV.i64 vf e) (.ap (vf ((zl k (e.getD [])).getD z))) (zl k (e.getD [])).isSome:=
 ⟨_,OC _ _ e,Xh vf z k _⟩
theorem OD {α β:Type} (neg:Bool) (kf:α→IV) (vf:β→IV) (e:Option (List (α×β))):Gk neg (qN kf vf e) (.bool (if neg then e.isSome else !e.isSome)):=by
 cases e with
 | none=>exact ⟨true,rfl,by cases neg<;>rfl⟩
 | some es=>exact ⟨false,rfl,by cases neg<;>rfl⟩
theorem V0 {α β:Type} (kf:α→IV) (vf:β→IV) (h:Nat→Option aD) (d:Nat):∀ es:List (α×β),aI (fun e:IV×AV=>(zC h (d+1) e.2).map fun y=>(e.1,y)) (zp kf vf es)=some (es.map fun e=>(kf e.1,vf e.2))
 | []=>rfl
 | (k,v)::r=>by
  have ih:=V0 kf vf h d r
  simp only [zp,ui,aI,zC,uy] at ih ⊢
  rw [ih]
theorem OE {α β:Type} (kf:α→IV) (vf:β→IV) (h:Nat→Option aD) (d id:Nat) (es:List (α×β)) (ho:h id=some (.map (zp kf vf es))):zC h (d+2) (.map id)=some (qN kf vf (some es)):=by
 show (match h id with
  | some (.map es)=>(aI (fun e:IV×AV=>(zC h (d+1) e.2).map fun y=>(e.1,y)) es).map IV.eI
  | _=>none)=_
 rw [ho]
 simp only [V0]
 rfl
theorem V1 {α:Type} (f:α→List IV) (h:Nat→Option aD) (d:Nat):∀ l:List α,aI (fun row:List AV=>aI (zC h (d+1)) row) (zb f l)=some (l.map f)
 | []=>rfl
 | x::l=>by
  have ih:=V1 f h d l
  have h1:aI (zC h (d+1)) (zu (f x))=some (f x):=by
   generalize f x=r
   induction r with
   | nil=>rfl
   | cons a r ih=>simp only [zu,ui,aI,zC] at ih ⊢; rw [ih]
  simp only [zb,ui,aI] at ih ⊢
  rw [h1];simp only;rw [ih]
theorem GG {α:Type} (f:α→List IV) (h:Nat→Option aD) (d id sz:Nat) (l:List α) (ho:h id=some (.af sz (zb f l))):zC h (d+2) (.Zaj id 0 l.length)=some (.slice (l.map f)):=by
 show (match h id with
  | some (.af _ af)=>if 0+l.length≤af.length then (aI (fun row:List AV=>aI (zC h (d+1)) row) ((af.drop 0).take l.length)).map IV.slice else none
  | _=>none)=_
 rw [ho]
 simp only [uz]
 rw [if_pos (by simp [zb]),uw (by simp [zb]),V1 f h d l];rfl
end
def BW (m:Nat) (ov env:List (Nat×AV)):List Nat→Option (List (Nat×AV)×List Prop)
 | []=>some ([],[])
 | k::ks=>match za env k with
  | none=>none
  | some a=>match BW m ov env ks with
   | none=>none
   | some (l,ps)=>match za ov k with
    | some b=>match zX m b with
     | true=>some ((k,b)::l,(a=b)::ps)
     | false=>none
    | none=>match zX m a with
     | true=>some ((k,a)::l,ps)
     | false=>none
def Y5 (m:Nat):aD→Bool
 | .af _ af=>af.all fun row=>row.all (zX m)
 | .aU _ _=>true
 | .map es=>es.all fun e=>zX m e.2
 | .dead=>true
 | .lp _ _ _ _=>true
theorem vQ {m:Nat} {o:aD} (h:Y5 m o=true):zY m o:=by
 cases o<;>simp only [Y5,zY] at h ⊢
 ·intro row hr x hx;exact ul.1 (ul.1 h row hr) x hx
 ·intro e he;exact ul.1 h e he
def BX (m:Nat) (ov heap:List (Nat×aD)):List (Nat×Bool)→Option (List (Nat×aD)×List Prop)
 | []=>some ([],[])
 | (k,f)::ks=>match za heap k with
  | none=>none
  | some a=>match BX m ov heap ks with
   | none=>none
   | some (l,ps)=>match decide (k < m) with
    | false=>none
    | true=>match za ov k with
     | some b=>match f with
      | true=>match Y5 m b with
       | true=>some ((k,b)::l,(a=b)::ps)
       | false=>none
      | false=>some ((k,b)::l,(a=b)::zY m b::ps)
     | none=>match f with
      | true=>match Y5 m a with
       | true=>some ((k,a)::l,ps)
       | false=>none
      | false=>some ((k,a)::l,zY m a::ps)
def GH (ks:List Nat) (hs:List (Nat×Bool)) (n:Nat) (ov:List (Nat×AV)) (Dq:List (Nat×aD)) (st:St):Option (St×List Prop):=match decide (n≤st.next) with
 | false=>none
 | true=>match BW n ov st.env ks,BX n Dq st.heap hs with
  | some (e,ps),some (h,qs)=>some (⟨e,h,n⟩,ps++qs)
  | _,_=>none
theorem Xj {m:Nat} {ov env:List (Nat×AV)}:∀ {ks:List Nat} {l:List (Nat×AV)} {ps:List Prop},BW m ov env ks=some (l,ps)→cK ps→∀ p∈l,za env p.1=some p.2∧zX m p.2=true
 | [],l,ps,h,hp=>by cases h;intro p hp;cases hp
 | k::ks,l,ps,h,hp=>by
  simp only [BW] at h
  split at h
  ·cases h
  ·rename_i a ha
   split at h
   ·cases h
   ·rename_i l' ps' hr
    split at h
    ·split at h
     ·rename_i b hb sH
      cases h
      cases hp with
      | cons h1 h2=>
       intro p hp
       rcases ug.1 hp with rfl | hp
       ·exact ⟨by rw [ha,h1],sH⟩
       ·exact Xj hr h2 p hp
     ·cases h
    ·split at h
     ·rename_i sH
      cases h
      intro p ou
      rcases ug.1 ou with rfl | ou
      ·exact ⟨ha,sH⟩
      ·exact Xj hr hp p ou
     ·cases h
theorem vR {m:Nat} {ov heap:List (Nat×aD)}:∀ {ks:List (Nat×Bool)} {l:List (Nat×aD)} {ps:List Prop},BX m ov heap ks=some (l,ps)→cK ps→∀ p∈l,za heap p.1=some p.2∧p.1 < m∧zY m p.2
 | [],l,ps,h,hp=>by cases h;intro p hp;cases hp
 | (k,f)::ks,l,ps,h,hp=>by
  simp only [BX] at h
  split at h
  ·cases h
  ·rename_i a ha
   split at h
   ·cases h
   ·rename_i l' ps' hr
    split at h
    ·cases h
    ·rename_i hk
     have hk:=of_decide_eq_true hk
     split at h
     ·rename_i b hb
      split at h
      ·split at h
       ·rename_i sH
        cases h
        cases hp with
        | cons h1 h2=>
         intro p hp
         rcases ug.1 hp with rfl | hp
         ·exact ⟨by rw [ha,h1],hk,vQ sH⟩
         ·exact vR hr h2 p hp
       ·cases h
      ·cases h
       cases hp with
       | cons h1 h2=>
        cases h2 with
        | cons h3 h4=>
         intro p hp
         rcases ug.1 hp with rfl | hp
         ·exact ⟨by rw [ha,h1],hk,h3⟩
         ·exact vR hr h4 p hp
     ·split at h
      ·split at h
       ·rename_i sH
        cases h
        intro p ou
        rcases ug.1 ou with rfl | ou
        ·exact ⟨ha,hk,vQ sH⟩
        ·exact vR hr hp p ou
       ·cases h
      ·cases h
       cases hp with
       | cons h3 h4=>
        intro p ou
        rcases ug.1 ou with rfl | ou
        ·exact ⟨ha,hk,h3⟩
        ·exact vR hr h4 p ou
theorem GI {st aX:St} (ks:List Nat) (hs:List (Nat×Bool)) (n:Nat) (ov:List (Nat×AV)) (Dq:List (Nat×aD)) {ps:List Prop} (hp:cK ps) (h:GH ks hs n ov Dq st=some (aX,ps)):bO st aX:=by
 unfold GH at h
 split at h
 ·cases h
 ·rename_i hn
  split at h
  ·rename_i e qs hh rs he OG
   cases h
   obtain ⟨p1,p2⟩:=hp.app
   exact Qz (of_decide_eq_true hn) (Xj he p1) (vR OG p2)
  ·cases h
theorem OH {rs:List dy} {d:Nat} {r:IV} {st:St} (h:(ja rs st).bind (zC (za st.heap) d)=some r):kR rs (J9 d r) .ret st:=by
 unfold kR Jc
 simp only
 cases h1:ja rs st with
 | none=>rw [h1] at h;cases h
 | some x=>rw [h1] at h;exact h
theorem bH.cC {C:Ctx} {f:Nat} {args:List AV} {heap:List (Nat×aD)} {next:Nat} {K K':AV→List (Nat×aD)→Nat→Prop} (hc:bH C f args heap next K)
  (hk:∀ r h n,K r h n→∃ r' h' n',K' r' h' n'∧next≤n'∧bO ⟨[(0,r)],h,n⟩ ⟨[(0,r')],h',n'⟩):bH C f args heap next K':=by
 refine ⟨hc.1,fun g w vs R hv=>(hc.2 g w vs R hv).mono ?_⟩
 rintro e w' ⟨v,r,heap',next',g',rfl,hK,E,R',hx⟩
 obtain ⟨r',h',n',hK',hn,hw⟩:=hk r heap' next' hK
 let a:Act:={tmps := #[v],defers:=[]}
 have hrel:Rel C ⟨1,0⟩ g' ⟨[(0,r)],heap',next'⟩ a w':=⟨⟨rfl,Marks.nil _ (uG _),fun t x hx'=>by
  simp only [za] at hx'
  split at hx'
  ·rename_i e;subst e;cases hx';exact hx
  ·cases hx'⟩,R'⟩
 obtain ⟨g2,R2,hE⟩:=hw C ⟨1,0⟩ g' a w' hrel
 exact ⟨v,r',h',n',g2,rfl,hK',hE g ⟨[],heap,next⟩ w hn E,R2.heap,R2.env.slot 0 r' rfl⟩
def GJ (rs:List dy) (r:AV) (heap:List (Nat×aD)) (n:Nat):Exit→St→Prop
 | .ret,st | .normal,st=>∃ x,ja rs st=some x∧bO ⟨[(0,x)],st.heap,st.next⟩ ⟨[(0,r)],heap,n⟩
 | _,_=>False
def Wa (m:Nat) (heap:List (Nat×aD)):Bool:=(List.range m).all fun i=>(za heap i).isSome
theorem GK {m:Nat} {heap:List (Nat×aD)} (h:Wa m heap=true):∀ i,i < m→(za heap i).isSome=true:=fun i hi=>by
 simp only [Wa,ul,List.mem_range] at h
 exact h i hi
def zE:Nat:=1000000
def vr (b:Nat) (L:List Int):List AV:=[bif uJ b 2000000 then .aS b (L.map zc) else .ap (.slice (L.map zc))]
def qv:Nat→List (List Int)→List (List AV)
 | _,[]=>[]
 | b,L::r=>vr b L::qv (b+1) r
theorem kb:∀ (Ls:List (List Int)) (b k:Nat),(qv b Ls)[k]?=(Ls[k]?).map (vr (b+k))
 | [],b,k=>by simp [qv]
 | L::r,b,0=>by simp [qv]
 | L::r,b,k+1=>by
  simp only [qv,List.getElem?_cons_succ]
  rw [kb r (b+1) k,show b+1+k=b+(k+1) by omega]
theorem ww {b:Nat} (h:b < 2000000) (L:List Int):vr b L=[.aS b (L.map zc)]:=by
 have:uJ b 2000000=true:=by simpa [Nat.blt_eq] using h
 simp [vr,this]
theorem yL {b:Nat} (h:¬ b < 2000000) (L:List Int):vr b L=[.ap (.slice (L.map zc))]:=by
 have:uJ b 2000000=false:=by
  cases e:uJ b 2000000 with
  | false=>rfl
  | true=>exact absurd (by simpa [Nat.blt_eq] using e) h
 simp [vr,this]
theorem OI {nx b:Nat} (h2:2000000≤nx) (L:List Int):∀ x∈vr b L,zX nx x=true:=by
 intro x hx
 by_cases hb:b < 2000000
 ·rw [ww hb] at hx
  have:x=.aS b (L.map zc):=by simpa using hx
  subst this
  simp only [zX,xx,zP,decide_eq_true_eq];omega
 ·rw [yL hb] at hx
  have:x=.ap (.slice (L.map zc)):=by simpa using hx
  subst this;rfl
theorem OJ {nx:Nat} (h2:2000000≤nx) (Ls:List (List Int)) (b:Nat):zY nx (.af 1 (qv b Ls)):=by
 intro row hrow x hx
 obtain ⟨k,hk⟩:=List.mem_iff_getElem?.1 hrow
 rw [kb] at hk
 obtain ⟨L,_,rfl⟩:=uc.1 hk
 exact OI h2 L x hx
inductive cw (m:Nat):List (Nat×aD)→Prop where
 | nil:cw m []
 | exp {k:Nat} {o:aD} {r:List (Nat×aD)} (hk:decide (k < m)=true) (ho:Y5 m o=true) (t:cw m r):cw m ((k,o)::r)
 | af {k sz:Nat} {α:Type} {f:α→List IV} {l:List α} {r:List (Nat×aD)} (hk:decide (k < m)=true) (t:cw m r):cw m ((k,.af sz (zb f l))::r)
 | cV {k:Nat} {α β:Type} {kf:α→IV} {vf:β→IV} {es:List (α×β)} {r:List (Nat×aD)} (hk:decide (k < m)=true) (t:cw m r):cw m ((k,.map (zp kf vf es))::r)
 | nest {k:Nat} {Ls:List (List Int)} {r:List (Nat×aD)} (hk:decide (k < m)=true) (hn:Nat.ble 2000000 m=true) (t:cw m r):cw m ((k,.af 1 (qv zE Ls))::r)
theorem cw.all {m:Nat} {l:List (Nat×aD)} (h:cw m l):∀ p∈l,p.1 < m∧zY m p.2:=by
 induction h with
 | nil=>intro p hp;cases hp
 | exp hk ho t ih=>
  intro p hp
  rcases ug.1 hp with rfl | hp
  ·exact ⟨of_decide_eq_true hk,vQ ho⟩
  ·exact ih p hp
 | af hk t ih=>
  intro p hp
  rcases ug.1 hp with rfl | hp
  ·exact ⟨of_decide_eq_true hk,wK _ _ _ _⟩
  ·exact ih p hp
 | cV hk t ih=>
  intro p hp
  rcases ug.1 hp with rfl | hp
  ·exact ⟨of_decide_eq_true hk,Om _ _ _ _⟩
  ·exact ih p hp
 | nest hk hn t ih=>
  intro p hp
  rcases ug.1 hp with rfl | hp
  ·exact ⟨of_decide_eq_true hk,OJ (Nat.le_of_ble_eq_true hn) _ _⟩
  ·exact ih p hp
theorem dm.start {C:Ctx} {f:Nat} {F:dw} (hF:qn C f=some F.erase) {args:List AV} {heap bP:List (Nat×aD)} {m d:Nat} {r:AV} (hn:args.length≤F.nt) (b0:cw m heap) (b1:cw (m+d) bP) (hka:args.all (zX m)=true) (OK:zX (m+d) r=true) (k0:Wa m heap=true) (k1:Wa m bP=true)
  (h:∀ B,cB C.plain ⟨F.nt,B⟩ F.body (GJ F.results r bP (m+d)) ⟨jn 0 args,heap,m⟩):dm C f args heap m r bP d where
 dA:=by
  have h1:bH C f args heap m fun x hp n=>bO ⟨[(0,x)],hp,n⟩ ⟨[(0,r)],bP,m+d⟩:=bH.enter hF hn (fun B=>qI (fun e st hk=>by
   cases e with
   | ret=>obtain ⟨x,h1,h2⟩:=hk;exact ⟨.inl rfl,x,h1,h2⟩
   | normal=>obtain ⟨x,h1,h2⟩:=hk;exact ⟨.inr rfl,x,h1,h2⟩
   | _=>exact hk.elim) (h B))
  exact h1.cC fun x hp n hw=>⟨r,bP,m+d,⟨rfl,rfl,rfl⟩,by omega,hw⟩
 k0:=b0.all
 ka:=fun x hx=>ul.1 hka x hx
 k1:=b1.all
 kr:=OK
 all:=GK k1
 AO:=GK k0
section
section
variable {C:Ctx} {g g':Gh} {h h':Nat→Option aD} {N N':Nat→Prop} {w w':World} {id:Nat}
theorem KZ {st:St} {t:Nat} {x y:AV} {aN:List (Nat×aD)} (ht:za st.env t=some x)
  (hg:∀ (C:Ctx) (g:Gh) (w:World) (v:Value),RH C g (za st.heap) (· < st.next) w→RV C g (za st.heap) (· < st.next) w x v→Good C g (za st.heap) (· < st.next) w st.next y aN v w) :
  bO st ⟨zk st.env t y,zL aN st.heap,st.next+1⟩:=by
 intro C nt g a w R
 obtain ⟨g',E,H,hv⟩:=hg C g w _ R.heap (R.env.slot t x ht)
 rw [jW] at E H hv
 rw [←jL] at E H hv
 refine ⟨g',⟨⟨R.env.size,R.env.defers.eN E,fun t' z hz => ?_⟩,H⟩,fun g0 cM w0 hm E0=>E0.trans E⟩
 rw [zm] at hz
 split at hz
 ·rename_i e;subst e;cases hz;exact hv
 ·exact (R.env.slot t' z hz).mono E
theorem Xk {st:St} {t:Nat} (sz:Nat) (ht:za st.env t=some .nil):bO st ⟨zk st.env t (.Zaj st.next 0 0),zL [(st.next,.af sz [])] st.heap,st.next+1⟩:=
 KZ ht fun C g w v R hv=>by rw [xg hv];exact KJ R (um _) sz
theorem K0 {st:St} {t i len sz:Nat} {af:List (List AV)} (ht:za st.env t=some (.Zaj i 0 len)) (ho:za st.heap i=some (.af sz af)) (hl:len=af.length) :
  bO st ⟨zk st.env t (.Zaj st.next 0 len),zL [(st.next,.af sz af),(i,.dead)] st.heap,st.next+1⟩:=
 KZ ht fun C g w v R hv=>FC R (um _) hv ho hl
theorem OL (st:St) (n:Nat) (hn:st.next≤n):bO st ⟨st.env,st.heap,n⟩:=by
 intro C nt g a w R
 have E:bV g (za st.heap) (· < st.next) w g (za st.heap) (· < n) w:={bV.refl g (za st.heap) (· < st.next) w with
  next:=fun i hi=>ut hi hn}
 refine ⟨g,⟨⟨R.env.size,R.env.defers,fun t x hx=>(R.env.slot t x hx).mono E⟩,⟨R.heap.inj,fun i b hb=>⟨(R.heap.lt i b hb).1,ut (R.heap.lt i b hb).2 hn⟩,fun i o ho=>ut (R.heap.key i o ho) hn,fun i b o hb ho=>(R.heap.obj i b o hb ho).keep E rfl rfl,R.heap.cQ,R.heap.dX,R.heap.fix.eN E⟩⟩,fun g0 cM w0 hm E0=>E0.trans E⟩
theorem bO.trans {s1 s2 s3:St} (h1:bO s1 s2) (h2:bO s2 s3) (hn:s3.next≤s2.next∨True):∀ (C:Ctx) (nt:Fr) (g:Gh) (a:Act) (w:World),Rel C nt g s1 a w→∃ g',Rel C nt g' s3 a w∧∀ g0 cM w0,cM.next≤s2.next→cM.next≤s3.next→dF g0 cM w0 g s1 w→dF g0 cM w0 g' s3 w:=by
 intro C nt g a w R
 obtain ⟨g1,R1,e1⟩:=h1 C nt g a w R
 obtain ⟨g2,R2,e2⟩:=h2 C nt g1 a w R1
 exact ⟨g2,R2,fun g0 cM w0 a1 a2 E=>e2 g0 cM w0 a2 (e1 g0 cM w0 a1 E)⟩
theorem bH.ow {f:Nat} {rest:List AV} {heap:List (Nat×aD)} {next:Nat} {K:AV→List (Nat×aD)→Nat→Prop} (h1:bH C f (.nil::rest) heap next K) (h2:bH C f (.cr::rest) heap next K):bH C f (.ap (.slice [])::rest) heap next K:=by
 refine ⟨h1.1,fun g w vs R hv => ?_⟩
 obtain ⟨hl,hv⟩:=hv
 cases vs with
 | nil=>simp at hl
 | cons v vs=>
  have pF:=hv 0 _ v rfl rfl
  have key:∀ x,RV C g (za heap) (· < next) w x v→nG C g (za heap) (· < next) w (x::rest) (v::vs):=fun x hx=>⟨by simpa using hl,fun j y u hj hu=>by
   cases j with
   | zero=>simp at hj hu;subst hj hu;exact hx
   | succ j=>exact hv (j+1) y u hj hu⟩
  cases pF with
  | ap _ _ hr=>
   cases hr with
   | nil=>exact h1.2 g w _ R (key _ .nil)
   | empty a cap=>exact h2.2 g w _ R (key _ (.cr a cap))
   | slice _ b off cap sz cv hcap=>exact h2.2 g w _ R (key _ (.cr ⟨b,off,none⟩ cap))
def jM (sz bI:Nat) (zero:List AV):dw:=⟨8,[.tmp 2],(
 .seq (.region false [] [⟨some 2,.dh (.c (.nil)),none⟩] (some [0])) (
  .seq (.seq (.region false [] [⟨some 3,.dh (.t 0),none⟩,⟨some 4,.eZ false (.t 3) (.c (.nil)),none⟩] (some [0,4])) (
    .cond (.t 4) (.seq (.region false [] [⟨some 2,.dh (.c (.nil)),none⟩] (some [2])) (.ret)) (.skip))) (
   .seq (.region false [] [⟨some 5,.cU sz zero 0 [],none⟩,⟨some 6,.dh (.t 0),none⟩,⟨some 7,.app sz bI (.t 5) (.t 6),none⟩,⟨some 2,.dh (.t 7),none⟩] (some [2])) (.ret))))⟩
def zQ {α:Type} (bI:Nat) (l:List α):Option (List α):=if l.length*bI≤140737488355328 then some l else none
theorem eA {α:Type} {n sz bI:Nat} {zero:List AV} (hF:qn C n=some (jM sz bI zero).erase) (f:α→List IV) (hf:∀ x,(f x).length=sz) {l e:List α} (h:zQ bI l=some e) :
  dm C n [.ap (.slice (ue f l))] [] 0 (.Zaj 7 0 e.length) [(7,.af sz (zb f e))] 8:=by
 unfold zQ at h
 split at h
 case isFalse=>cases h
 rename_i hb
 cases h
 refine ⟨?_,by simp,by simp [zX,xx,zP],?_,by simp [zX,xx,zP],by simp,by simp⟩
 ·unfold Df
  cases l with
  | nil=>
   refine bH.ow ?_ ?_
   ·have h1:bH C n [.nil] [] 0 fun r hp nx=>r=.nil∧hp=[]∧nx=4:=by
     refine bH.run hF (by simp [jM]) (fun B => ?_)
     simp [jM]
    refine (h1.cC (K':=fun r hp nx=>r=.nil∧hp=[]∧nx=7) ?_).cC ?_
    ·rintro r hp nx ⟨rfl,rfl,rfl⟩
     exact ⟨_,_,_,⟨rfl,rfl,rfl⟩,by omega,OL _ 7 (by simp)⟩
    ·rintro r hp nx ⟨rfl,rfl,rfl⟩
     exact ⟨_,_,_,⟨rfl,rfl,rfl⟩,by omega,Xk (t:=0) sz rfl⟩
   ·have h1:bH C n [.cr] [] 0 fun r hp nx=>r=.Zaj 5 0 0∧hp=[(3,.dead),(5,.af sz [])]∧nx=7:=by
     refine bH.run hF (by simp [jM]) (fun B => ?_)
     simp [jM,QZ]
    refine (h1.cC (K':=fun r hp nx=>r=.Zaj 7 0 0∧hp=[(3,.dead),(5,.dead),(7,.af sz [])]∧nx=8) ?_).cC ?_
    ·rintro r hp nx ⟨rfl,rfl,rfl⟩
     exact ⟨_,_,_,⟨rfl,rfl,rfl⟩,by omega,K0 (t:=0) (i:=5) (len:=0) (sz:=sz) (af:=[]) rfl rfl rfl⟩
    ·rintro r hp nx ⟨rfl,rfl,rfl⟩
     exact ⟨_,_,_,⟨rfl,rfl,rfl⟩,by omega,GI [0] [(7,true)] 8 [] [] cK.nil (by kernel_rfl)⟩
  | cons x xs=>
   have h1:bH C n [.ap (.slice (ue f (x::xs)))] [] 0 fun r hp nx=>r=.Zaj 5 0 (x::xs).length∧hp=[(3,.dead),(5,.af sz (zb f (x::xs)))]∧nx=7:=by
    refine bH.run hF (by simp [jM]) (fun B => ?_)
    simp [jM,QZ,hf]
    have hb':(xs.length+1)*bI≤140737488355328:=by simpa using hb
    rw [if_pos hb']
    simp [zb,zu,Function.comp_def]
   refine (h1.cC (K':=fun r hp nx=>r=.Zaj 7 0 (x::xs).length∧hp=[(3,.dead),(5,.dead),(7,.af sz (zb f (x::xs)))]∧nx=8) ?_).cC ?_
   ·rintro r hp nx ⟨rfl,rfl,rfl⟩
    exact ⟨_,_,_,⟨rfl,rfl,rfl⟩,by omega,K0 (t:=0) (i:=5) (len:=(x::xs).length) (sz:=sz) (af:=zb f (x::xs)) rfl rfl (by simp [zb])⟩
   ·rintro r hp nx ⟨rfl,rfl,rfl⟩
    exact ⟨_,_,_,⟨rfl,rfl,rfl⟩,by omega,GI [0] [(7,false)] 8 [] [] (cK.cons (wK 8 sz f (x::xs)) .nil) (by kernel_rfl)⟩
 ·intro p hp
  simp only [List.mem_singleton] at hp
  subst hp
  exact ⟨by omega,wK _ _ _ _⟩
end
end
section
def Zd (id:Nat) (af:List (List IV)):AV→AV
 | .Zaj i o n=>if i=id then .ap (.slice af) else .Zaj i o n
 | x=>x
def Ze (id off len:Nat):AV→List Prop
 | .Zaj i o n=>if i=id then [o=off∧n=len] else []
 | _=>[]
def V2 (id off len:Nat):AV→List Prop
 | .agg cs=>cs.flatMap (Ze id off len)
 | .tuple cs=>cs.flatMap (Ze id off len)
 | x=>Ze id off len x
def Dr (id off len:Nat):aD→List Prop
 | .af _ rs=>rs.flatMap fun r=>r.flatMap (V2 id off len)
 | _=>[]
def Y6 (id off len:Nat):List (Nat×AV)→List Prop
 | []=>[]
 | (_,x)::r=>V2 id off len x++Y6 id off len r
def W6 (id off len:Nat) (ks:List Nat):List (Nat×aD)→List Prop
 | []=>[]
 | (k,o)::r=>(if ks.contains k then Dr id off len o else [])++W6 id off len ks r
theorem cK.mem {ps:List Prop} (h:cK ps) {p:Prop} (hp:p∈ps):p:=by
 induction h with
 | nil=>cases hp
 | cons h t ih=>
  rcases ug.1 hp with e | e
  ·rw [e];exact h
  ·exact ih e
theorem cK.sub {ps qs:List Prop} (h:cK ps) (hs:∀ p∈qs,p∈ps):cK qs:=by
 induction qs with
 | nil=>exact .nil
 | cons q qs ih=>exact .cons (h.mem (hs q (by simp))) (ih fun p hp=>hs p (by simp [hp]))
theorem GL {id off len t:Nat} {x:AV}:∀ {env:List (Nat×AV)},za env t=some x→∀ p∈V2 id off len x,p∈Y6 id off len env
 | [],h,p,hp=>by cases h
 | (k,y)::r,h,p,hp=>by
  simp only [za] at h
  simp only [Y6,ur]
  split at h
  ·cases h;exact .inl hp
  ·exact .inr (GL h p hp)
theorem GM {id off len i:Nat} {ks:List Nat} {o:aD} (hi:ks.contains i=true):∀ {heap:List (Nat×aD)},za heap i=some o→∀ p∈Dr id off len o,p∈W6 id off len ks heap
 | [],h,p,hp=>by cases h
 | (k,y)::r,h,p,hp=>by
  simp only [za] at h
  simp only [W6,ur]
  split at h
  ·rename_i e;subst e;cases h;rw [if_pos hi];exact .inl hp
  ·exact .inr (GM hi h p hp)
def Ji (id:Nat) (af:List (List IV)):AV→AV
 | .agg cs=>.agg (cs.map (Zd id af))
 | .tuple cs=>.tuple (cs.map (Zd id af))
 | x=>Zd id af x
def xM (id:Nat) (af:List (List IV)):aD→aD
 | .af sz rs=>.af sz (rs.map fun r=>r.map (Ji id af))
 | o=>o
def Jj (id:Nat) (af:List (List IV)) (ks:List Nat):List (Nat×aD)→List (Nat×aD)
 | []=>[]
 | (k,o)::r=>(k,if k=id then .dead else if ks.contains k then xM id af o else o)::Jj id af ks r
def Y7 (id:Nat) (af:List (List IV)):List (Nat×AV)→List (Nat×AV)
 | []=>[]
 | (k,x)::r=>(k,Ji id af x)::Y7 id af r
theorem V3 (id:Nat) (af:List (List IV)):∀ (env:List (Nat×AV)) (t:Nat),za (Y7 id af env) t=(za env t).map (Ji id af)
 | [],t=>rfl
 | (k,x)::r,t=>by
  simp only [Y7,za]
  split
  ·rfl
  ·exact V3 id af r t
theorem kT (id:Nat) (af:List (List IV)) (ks:List Nat):∀ (heap:List (Nat×aD)) (i:Nat),za (Jj id af ks heap) i=(za heap i).map fun o=>if i=id then .dead else if ks.contains i then xM id af o else o
 | [],i=>rfl
 | (k,o)::r,i=>by
  simp only [Jj,za]
  split
  ·rename_i e;subst e;rfl
  ·exact kT id af ks r i
theorem WL {st:St} (id sz off len:Nat) (all af:List (List IV)) (ks:List Nat) (iJ:List (List AV)) (ho:za st.heap id=some (.af sz iJ)) (hrows:all.map (fun r=>r.map AV.ap)=iJ) (hD:(all.drop off).take len=af) (AU:cK (Y6 id off len st.env++W6 id off len ks st.heap)):bO st ⟨Y7 id af st.env,Jj id af ks st.heap,st.next⟩:=by
 subst hrows
 intro C nt g a w R
 obtain ⟨RE,R⟩:=R
 let g':Gh:=⟨fun i=>if i=id then none else g.ρ i,fun b=>if g.ρ id=some b then max (g.Z b) (all.length*sz) else g.Z b⟩
 have hr:∀ i b,g'.ρ i=some b→i≠id∧g.ρ i=some b:=fun i b h=>by
  simp only [g'] at h
  split at h
  ·cases h
  ·exact ⟨‹_›,h⟩
 have hr':∀ i,i≠id→g'.ρ i=g.ρ i:=fun i h=>by simp only [g',if_neg h]
 have hz:∀ b,g.Z b≤g'.Z b:=fun b=>by simp only [g'];split<;>omega
 have gL:∀ b,¬ g.ρ id=some b→g'.Z b=g.Z b:=fun b h=>by simp only [g',if_neg h]
 have hh:∀ i o,za (Jj id af ks st.heap) i=some o→(i=id∧o=.dead)∨(i≠id∧∃ o0,za st.heap i=some o0∧(o=o0∨(ks.contains i=true∧o=xM id af o0))):=fun i o h=>by
  rw [kT,uc] at h
  obtain ⟨o0,h1,h2⟩:=h
  split at h2
  ·rename_i e;exact .inl ⟨e,h2.symm⟩
  ·rename_i e
   split at h2
   ·rename_i hk;exact .inr ⟨e,o0,h1,.inr ⟨hk,h2.symm⟩⟩
   ·exact .inr ⟨e,o0,h1,.inl h2.symm⟩
 have E:bV g (za st.heap) (· < st.next) w g' (za (Jj id af ks st.heap)) (· < st.next) w:={
  os:=rfl
  tape:=rfl
  output:=rfl
  size:=uh _
  old:=fun b _ hno=>⟨rfl,gL b fun e=>hno ⟨id,e⟩⟩
  own:=fun b ⟨i,hi⟩=>.inl ⟨i,(hr i b hi).2⟩
  bW:=hz
  cell:=iF.refl _ _
  shape:=fun b c e h=>⟨c,h,rfl⟩
  next:=fun _ h=>h
  eu:=fun i b hb o ho' hnd _=>by
   rcases hh i o ho' with ⟨_,h2⟩ | ⟨h1,_⟩
   ·exact absurd h2 hnd
   ·exact .inl (by rw [hr' i h1];exact hb)
  cI:=fun i hb _ o ho' hnd=>by
   rcases hh i o ho' with ⟨_,h2⟩ | ⟨h1,_⟩
   ·exact absurd h2 hnd
   ·exact .inl (by rw [hr' i h1];exact hb)
  af:=fun i _ s r ho'=>by
   rcases hh i _ ho' with ⟨_,h2⟩ | ⟨_,o0,h2,h3 | ⟨_,h3⟩⟩
   ·cases h2
   ·subst h3;exact ⟨r,h2,rfl⟩
   ·cases o0<;>simp only [xM] at h3<;>cases h3
    exact ⟨_,h2,by simp⟩
  cR:=fun i _ s l ho'=>by
   rcases hh i _ ho' with ⟨_,h2⟩ | ⟨_,o0,h2,h3 | ⟨_,h3⟩⟩
   ·cases h2
   ·subst h3;exact ⟨l,h2,uh _⟩
   ·cases o0<;>simp only [xM] at h3<;>cases h3
    exact ⟨_,h2,uh _⟩
  maps:=fun i _ es ho'=>by
   rcases hh i _ ho' with ⟨_,h2⟩ | ⟨_,o0,h2,h3 | ⟨_,h3⟩⟩
   ·cases h2
   ·subst h3;exact ⟨es,h2⟩
   ·cases o0<;>simp only [xM] at h3<;>cases h3
    exact ⟨_,h2⟩
  fJ:=fun i _ ll RR s pe ho'=>by
   rcases hh i _ ho' with ⟨_,h2⟩ | ⟨_,o0,h2,h3 | ⟨_,h3⟩⟩
   ·cases h2
   ·subst h3;exact ⟨s,pe,h2⟩
   ·cases o0<;>simp only [xM] at h3<;>cases h3
    exact ⟨_,_,h2⟩}
 have leaf:∀ {x:AV} {v:Value},cK (Ze id off len x)→RV C g (za st.heap) (· < st.next) w x v→RV C g' (za (Jj id af ks st.heap)) (· < st.next) w (Zd id af x) v:=by
  intro x v tR hv
  cases x with
  | Zaj i off' len'=>
   simp only [Zd]
   split
   ·rename_i e
    subst e
    simp only [Ze,if_true] at tR
    obtain ⟨rfl,rfl⟩:=tR.one
    rw [←hD]
    cases hv with
    | Zaj _ _ _ _ hid h1 hp=>
     obtain ⟨h2,h3⟩:=hp sz _ ho
     simp only [uH] at h2
     have hlen:((all.drop off').take len').length=len':=by rw [List.length_take,List.length_drop];omega
     rcases h3 with ⟨a1,a2,a3⟩ | ⟨b,cap,c,e,b1,b2,b3,b4,b5⟩
     ·simp only [List.map_eq_nil_iff] at a2
      subst a2 a3
      have:len'=0:=by simp at h2;omega
      subst this
      simp only [List.drop_nil,List.take_nil]
      exact .ap _ _ .nil
     ·subst b2
      have mG:=R.obj _ b _ b1 ho
      simp only [cG] at mG
      obtain ⟨z0,c2,e2,c3,c4,c5⟩:=mG
      rw [b4] at c3
      cases c3
      have cZ:∀ (k:Nat) (row:List IV) (j:Nat) (y:IV),((all.drop off').take len')[k]?=some row→row[j]?=some y→all[off'+k]?=some row∧off'+k < all.length∧row.length=sz∧j < sz:=fun k row j y hk hj=>by
       have hk':k < len':=by rw [←hlen];exact (ua.1 hk).1
       rw [uC,if_pos hk',uD] at hk
       have hl:=c4 (off'+k) (row.map AV.ap) (by rw [ub,hk];rfl)
       simp only [uH] at hl
       exact ⟨hk,(ua.1 hk).1,hl,by rw [←hl];exact (ua.1 hj).1⟩
      refine .ap _ _ ?_
      have:=RI.slice (Z:=g'.Z) (w:=w) ((all.drop off').take len') b (off'*sz) cap sz (fun k j=>(c[(off'+k)*sz+j]?).getD default) (by rw [hlen];exact b3)
       (fun k row hk=>by
        have hk':k < len':=by rw [←hlen];exact (ua.1 hk).1
        rw [uC,if_pos hk',uD] at hk
        have hl:=c4 (off'+k) (row.map AV.ap) (by rw [ub,hk];rfl)
        simpa using hl)
       (fun k row j y hk hj=>by
        obtain ⟨q1,q2,q3,q4⟩:=cZ k row j y hk hj
        have e1:off'*sz+k*sz+j=(off'+k)*sz+j:=by rw [uA]
        rw [e1]
        have e2:(off'+k+1)*sz≤all.length*sz:=uo _ q2
        rw [uA (off'+k) 1] at e2
        simp only [g',if_pos b1]
        omega)
       (fun k row j y hk hj=>by
        obtain ⟨q1,q2,q3,q4⟩:=cZ k row j y hk hj
        obtain ⟨cv,u1,u2,u3⟩:=c5 (off'+k) (row.map AV.ap) j (.ap y) (by rw [ub,q1];rfl) (by rw [ub,hj];rfl)
        have e1:off'*sz+k*sz+j=(off'+k)*sz+j:=by rw [uA]
        rw [e1,qF b4,u1]
        exact ⟨rfl,u2⟩)
       (fun k row j y hk hj=>by
        obtain ⟨q1,q2,q3,q4⟩:=cZ k row j y hk hj
        obtain ⟨cv,u1,u2,u3⟩:=c5 (off'+k) (row.map AV.ap) j (.ap y) (by rw [ub,q1];rfl) (by rw [ub,hj];rfl)
        rw [u1]
        cases u3 with
        | ap _ _ gq=>exact gq.mono hz (iF.refl _ _))
      rw [hlen] at this
      exact this
   ·exact hv.mono E
  | _=>exact hv.mono E
 have tr:∀ {x:AV} {v:Value},cK (V2 id off len x)→RV C g (za st.heap) (· < st.next) w x v→RV C g' (za (Jj id af ks st.heap)) (· < st.next) w (Ji id af x) v:=by
  intro x v tR hv
  cases x with
  | agg cs=>
   simp only [Ji]
   cases hv with
   | agg _ vs hl h1 cz=>
    refine .agg _ vs (by simpa using hl) h1 fun i y u e1 e2 => ?_
    rw [ub,uc] at e1
    obtain ⟨z,e1,rfl⟩:=e1
    exact leaf (tR.sub fun p hp=>un.2 ⟨z,uj e1,hp⟩) (cz i z u e1 e2)
  | tuple cs=>
   simp only [Ji]
   cases hv with
   | tuple _ vs hl cz=>
    refine .tuple _ vs (by simpa using hl) fun i y u e1 e2 => ?_
    rw [ub,uc] at e1
    obtain ⟨z,e1,rfl⟩:=e1
    exact leaf (tR.sub fun p hp=>un.2 ⟨z,uj e1,hp⟩) (cz i z u e1 e2)
  | Zaj i o n=>exact leaf (x:=.Zaj i o n) tR hv
  | _=>exact hv.mono E
 refine ⟨g',⟨⟨RE.size,RE.defers.eN E,fun t x hx => ?_⟩,⟨fun i j b h1 h2=>R.inj i j b (hr i b h1).2 (hr j b h2).2,fun i b h1=>R.lt i b (hr i b h1).2,fun i o h1 => ?_,fun i b o h1 h2 => ?_,fun i s l h1 h2 => ?_,fun b hb => ?_,R.fix.eN E⟩⟩,fun g0 cM w0 hm E0=>E0.trans E⟩
 ·simp only at hx
  rw [V3,uc] at hx
  obtain ⟨y,h1,rfl⟩:=hx
  exact tr (AU.sub fun p hp=>ur.2 (.inl (GL h1 p hp))) (RE.slot t y h1)
 ·rcases hh i o h1 with ⟨h2,_⟩ | ⟨_,o0,h2,_⟩
  ·subst h2;exact R.key _ _ ho
  ·exact R.key i o0 h2
 ·obtain ⟨hne,h1⟩:=hr i b h1
  have o5:g'.Z b=g.Z b:=gL b fun e=>hne (R.inj _ _ b h1 e)
  rcases hh i o h2 with ⟨h3,_⟩ | ⟨_,o0,h3,h4 | ⟨hks,h4⟩⟩
  ·exact absurd h3 hne
  ·subst h4
   have hro:=R.obj i b _ h1 h3
   cases o with
   | af s r=>
    simp only [cG] at hro ⊢
    obtain ⟨a1,c,e,a2,a3,a4⟩:=hro
    refine ⟨by rw [o5];exact a1,c,e,a2,a3,fun k row j x u1 u2 => ?_⟩
    obtain ⟨cv,b1,b2,b3⟩:=a4 k row j x u1 u2
    exact ⟨cv,b1,b2,b3.mono E⟩
   | aU s l=>simp only [cG] at hro ⊢; rw [o5];exact hro
   | map es=>
    simp only [cG] at hro ⊢
    obtain ⟨a1,cF,clock,a2,a3,a4⟩:=hro
    refine ⟨by rw [o5];exact a1,cF,clock,a2,a3,fun k kk x u1 => ?_⟩
    obtain ⟨e,b1,b2,b3⟩:=a4 k kk x u1
    exact ⟨e,b1,b2,b3.mono E⟩
   | dead=>trivial
   | lp l R s pe=>simp only [cG] at hro ⊢; rw [o5];exact hro
  ·subst h4
   have hro:=R.obj i b _ h1 h3
   cases o0 with
   | af s r=>
    simp only [xM,cG] at hro ⊢
    obtain ⟨a1,c,e,a2,a3,a4⟩:=hro
    refine ⟨by rw [o5];exact a1,c,e,a2,fun k row u1 => ?_,fun k row j x u1 u2 => ?_⟩
    ·rw [ub,uc] at u1
     obtain ⟨z,u1,rfl⟩:=u1
     simpa using a3 k z u1
    ·rw [ub,uc] at u1
     obtain ⟨z,u1,rfl⟩:=u1
     rw [ub,uc] at u2
     obtain ⟨y,u2,rfl⟩:=u2
     obtain ⟨cv,b1,b2,b3⟩:=a4 k z j y u1 u2
     exact ⟨cv,b1,b2,tr (AU.sub fun p hp=>ur.2 (.inr (GM hks h3 p (by simp only [Dr];exact un.2 ⟨z,uj u1,un.2 ⟨y,uj u2,hp⟩⟩)))) b3⟩
   | aU s l=>simp only [xM,cG] at hro ⊢; rw [o5];exact hro
   | map es=>
    simp only [xM,cG] at hro ⊢
    obtain ⟨a1,cF,clock,a2,a3,a4⟩:=hro
    refine ⟨by rw [o5];exact a1,cF,clock,a2,a3,fun k kk x u1 => ?_⟩
    obtain ⟨e,b1,b2,b3⟩:=a4 k kk x u1
    exact ⟨e,b1,b2,b3.mono E⟩
   | dead=>trivial
   | lp l R s pe=>simp only [xM,cG] at hro ⊢; rw [o5];exact hro
 ·rcases hh i _ h1 with ⟨_,h3⟩ | ⟨hne,o0,h3,h4 | ⟨_,h4⟩⟩
  ·cases h3
  ·subst h4;exact R.cQ i s l h3 (by rw [←hr' i hne];exact h2)
  ·cases o0<;>simp only [xM] at h4<;>cases h4
   exact R.cQ i s l h3 (by rw [←hr' i hne];exact h2)
 ·simp only [g'] at hb
  split at hb
  ·rename_i e;exact (R.lt id b e).1
  ·exact R.dX b hb
theorem GN {α:Type} (f:α→List IV) (l:List α):((ue f l).drop 0).take l.length=ue f l:=by
 rw [uz,uw (by simp)]
theorem OM {α:Type} (f:α→List IV) (l:List α) (n:Nat):((ue f l).drop 0).take n=ue f (List.take n l):=by
 rw [uz,uI]
theorem ke {α:Type} (f:α→List IV) (l:List α):(ue f l).map (fun r=>r.map AV.ap)=zb f l:=by
 simp only [zb,zu,uE];rfl
inductive mQ:AV→AV→Prop where
 | refl (x:AV):mQ x x
 | nil:mQ .nil (.ap (.slice []))
 | aU (id:Nat) (af:List (List IV)):mQ (.aS id af) (.ap (.slice af))
inductive eB:List AV→List AV→Prop where
 | nil:eB [] []
 | cons {x y:AV} {r s:List AV} (h:mQ x y) (t:eB r s):eB (x::r) (y::s)
theorem eB.len {r s:List AV} (h:eB r s):r.length=s.length:=by
 induction h with
 | nil=>rfl
 | cons h t ih=>simp [ih]
theorem eB.get {r s:List AV} (h:eB r s):∀ (j:Nat) (y:AV),s[j]?=some y→∃ x,r[j]?=some x∧mQ x y:=by
 induction h with
 | nil=>intro j y hj;simp at hj
 | cons h t ih=>
  intro j y hj
  cases j with
  | zero=>simp at hj;subst hj;exact ⟨_,by simp,h⟩
  | succ j=>simpa using ih j y (by simpa using hj)
theorem ON {st:St} {α:Type} (id sz k:Nat) (row:List AV) (f:α→List IV) (z:α) (ho:za st.heap id=some (.af sz (ud k row))) (hle:eB row (zu (f z))):bO st ⟨st.env,zk st.heap id (.af sz (zb f (ud k z))),st.next⟩:=by
 intro C nt g a w R
 obtain ⟨RE,R⟩:=R
 have hlen:(zb f (ud k z)).length=(ud k row).length:=by simp [zb]
 have hh:∀ i o,za (zk st.heap id (.af sz (zb f (ud k z)))) i=some o→(i=id∧o=.af sz (zb f (ud k z)))∨(i≠id∧za st.heap i=some o):=fun i o h=>by
  rw [zm] at h
  split at h
  ·rename_i e;exact .inl ⟨e.symm,by cases h;rfl⟩
  ·rename_i e;exact .inr ⟨fun e2=>e e2.symm,h⟩
 have E:bV g (za st.heap) (· < st.next) w g (za (zk st.heap id (.af sz (zb f (ud k z))))) (· < st.next) w:={bV.refl g (za st.heap) (· < st.next) w with
  eu:=fun i b hb _ _ _ _=>.inl hb
  cI:=fun i hb _ _ _ _=>.inl hb
  af:=fun i _ s r h1=>by
   rcases hh i _ h1 with ⟨e1,e2⟩ | ⟨_,e2⟩
   ·subst e1;cases e2;exact ⟨_,ho,hlen.symm⟩
   ·exact ⟨r,e2,rfl⟩
  cR:=fun i _ s l h1=>by
   rcases hh i _ h1 with ⟨_,e2⟩ | ⟨_,e2⟩
   ·cases e2
   ·exact ⟨l,e2,uh _⟩
  maps:=fun i _ es h1=>by
   rcases hh i _ h1 with ⟨_,e2⟩ | ⟨_,e2⟩
   ·cases e2
   ·exact ⟨es,e2⟩
  fJ:=fun i _ ll RR s pe h1=>by
   rcases hh i _ h1 with ⟨_,e2⟩ | ⟨_,e2⟩
   ·cases e2
   ·exact ⟨s,pe,e2⟩}
 refine ⟨g,⟨⟨RE.size,RE.defers,fun t x hx=>(RE.slot t x hx).mono E⟩,⟨R.inj,R.lt,fun i o h1 => ?_,fun i b o h1 h2 => ?_,fun i s l h1 h2 => ?_,R.dX,R.fix.eN E⟩⟩,fun g0 cM w0 hm E0=>E0.trans E⟩
 ·rcases hh i o h1 with ⟨e1,_⟩ | ⟨_,e2⟩
  ·subst e1;exact R.key _ _ ho
  ·exact R.key i o e2
 ·rcases hh i o h2 with ⟨e1,e2⟩ | ⟨_,e2⟩
  ·subst e1 e2
   have hro:=R.obj _ b _ h1 ho
   simp only [cG] at hro ⊢
   obtain ⟨a1,c,e,a2,a3,a4⟩:=hro
   have hrow:∀ (i:Nat) (r:List AV),(zb f (ud k z))[i]?=some r→(ud k row)[i]?=some row∧r=zu (f z):=fun i r hi=>by
    simp only [zb,List.map_replicate,List.getElem?_replicate] at hi ⊢
    split at hi
    ·rename_i hlt;rw [if_pos hlt];cases hi;exact ⟨rfl,rfl⟩
    ·cases hi
   refine ⟨a1,c,e,a2,fun i r hi => ?_,fun i r j x hi hj => ?_⟩
   ·obtain ⟨q1,q2⟩:=hrow i r hi
    rw [q2,←hle.len]
    exact a3 i row q1
   ·obtain ⟨q1,q2⟩:=hrow i r hi
    subst q2
    obtain ⟨y,q3,q4⟩:=hle.get j x hj
    obtain ⟨cv,b1,b2,b3⟩:=a4 i row j y q1 q3
    refine ⟨cv,b1,b2,?_⟩
    cases q4 with
    | refl=>exact b3.mono E
    | nil=>rw [xg b3];exact .ap _ _ .nil
    | aU=>cases b3 with | aS _ _ _ hr _ _=>exact .ap _ _ (hr.mono E.bW E.cell)
  ·exact (R.obj i b o h1 e2).keep E rfl rfl
 ·rcases hh i _ h1 with ⟨_,e2⟩ | ⟨_,e2⟩
  ·cases e2
  ·exact R.cQ i s l e2 h2
inductive dQ:List (List AV)→List (List AV)→Prop where
 | nil:dQ [] []
 | cons {r s:List AV} {l m:List (List AV)} (h:eB r s) (t:dQ l m):dQ (r::l) (s::m)
theorem dQ.len {l m:List (List AV)} (h:dQ l m):l.length=m.length:=by
 induction h with
 | nil=>rfl
 | cons h t ih=>simp [ih]
theorem dQ.get {l m:List (List AV)} (h:dQ l m):∀ (j:Nat) (s:List AV),m[j]?=some s→∃ r,l[j]?=some r∧eB r s:=by
 induction h with
 | nil=>intro j y hj;simp at hj
 | cons h t ih=>
  intro j y hj
  cases j with
  | zero=>simp at hj;subst hj;exact ⟨_,by simp,h⟩
  | succ j=>simpa using ih j y (by simpa using hj)
theorem GO {st:St} (id sz:Nat) (l m:List (List AV)) (ho:za st.heap id=some (.af sz l)) (hle:dQ l m):bO st ⟨st.env,zk st.heap id (.af sz m),st.next⟩:=by
 intro C nt g a w R
 obtain ⟨RE,R⟩:=R
 have hh:∀ i o,za (zk st.heap id (.af sz m)) i=some o→(i=id∧o=.af sz m)∨(i≠id∧za st.heap i=some o):=fun i o h=>by
  rw [zm] at h
  split at h
  ·rename_i e;exact .inl ⟨e.symm,by cases h;rfl⟩
  ·rename_i e;exact .inr ⟨fun e2=>e e2.symm,h⟩
 have E:bV g (za st.heap) (· < st.next) w g (za (zk st.heap id (.af sz m))) (· < st.next) w:={bV.refl g (za st.heap) (· < st.next) w with
  eu:=fun i b hb _ _ _ _=>.inl hb
  cI:=fun i hb _ _ _ _=>.inl hb
  af:=fun i _ s r h1=>by
   rcases hh i _ h1 with ⟨e1,e2⟩ | ⟨_,e2⟩
   ·subst e1;cases e2;exact ⟨_,ho,hle.len⟩
   ·exact ⟨r,e2,rfl⟩
  cR:=fun i _ s l h1=>by
   rcases hh i _ h1 with ⟨_,e2⟩ | ⟨_,e2⟩
   ·cases e2
   ·exact ⟨l,e2,uh _⟩
  maps:=fun i _ es h1=>by
   rcases hh i _ h1 with ⟨_,e2⟩ | ⟨_,e2⟩
   ·cases e2
   ·exact ⟨es,e2⟩
  fJ:=fun i _ ll RR s pe h1=>by
   rcases hh i _ h1 with ⟨_,e2⟩ | ⟨_,e2⟩
   ·cases e2
   ·exact ⟨s,pe,e2⟩}
 refine ⟨g,⟨⟨RE.size,RE.defers,fun t x hx=>(RE.slot t x hx).mono E⟩,⟨R.inj,R.lt,fun i o h1 => ?_,fun i b o h1 h2 => ?_,fun i s l h1 h2 => ?_,R.dX,R.fix.eN E⟩⟩,fun g0 cM w0 hm E0=>E0.trans E⟩
 ·rcases hh i o h1 with ⟨e1,_⟩ | ⟨_,e2⟩
  ·subst e1;exact R.key _ _ ho
  ·exact R.key i o e2
 ·rcases hh i o h2 with ⟨e1,e2⟩ | ⟨_,e2⟩
  ·subst e1 e2
   have hro:=R.obj _ b _ h1 ho
   simp only [cG] at hro ⊢
   obtain ⟨a1,c,e,a2,a3,a4⟩:=hro
   refine ⟨a1,c,e,a2,fun i r hi => ?_,fun i r j x hi hj => ?_⟩
   ·obtain ⟨q,q1,q2⟩:=hle.get i r hi
    rw [←q2.len];exact a3 i q q1
   ·obtain ⟨q,q1,q2⟩:=hle.get i r hi
    obtain ⟨y,q3,q4⟩:=q2.get j x hj
    obtain ⟨cv,b1,b2,b3⟩:=a4 i q j y q1 q3
    refine ⟨cv,b1,b2,?_⟩
    cases q4 with
    | refl=>exact b3.mono E
    | nil=>rw [xg b3];exact .ap _ _ .nil
    | aU=>cases b3 with | aS _ _ _ hr _ _=>exact .ap _ _ (hr.mono E.bW E.cell)
  ·exact (R.obj i b o h1 e2).keep E rfl rfl
 ·rcases hh i _ h1 with ⟨_,e2⟩ | ⟨_,e2⟩
  ·cases e2
  ·exact R.cQ i s l e2 h2
open Classical in
noncomputable def rD {α:Type} (f:Nat→Option α):Option α:=if h:∃ r,∃ k,∀ k',k≤k'→f k'=some r then some h.choose else none
theorem OO {α:Type} {f:Nat→Option α} {r:α} (h:rD f=some r):∃ k,f k=some r:=by
 unfold rD at h
 split at h
 ·rename_i hh
  cases h
  obtain ⟨k,hk⟩:=hh.choose_spec
  exact ⟨k,hk k (uh _)⟩
 ·cases h
theorem OP {α:Type} {f:Nat→Option α} {r:α} (k:Nat) (h:∀ k',k≤k'→f k'=some r):rD f=some r:=by
 unfold rD
 have hh:∃ r,∃ k,∀ k',k≤k'→f k'=some r:=⟨r,k,h⟩
 rw [dif_pos hh]
 obtain ⟨k2,hk2⟩:=hh.choose_spec
 have h1:=hk2 (max k k2) (Nat.le_max_right _ _)
 have h2:=h (max k k2) (Nat.le_max_left _ _)
 rw [h1] at h2;exact h2
section
variable {h:Nat→Option aD} {d:Nat}
theorem qO:aI (zC h d) []=some []:=rfl
theorem zy {x:AV} {y:IV} {xs:List AV} {ys:List IV} (h1:zC h d x=some y) (h2:aI (zC h d) xs=some ys):aI (zC h d) (x::xs)=some (y::ys):=by
 simp only [aI];rw [h1];simp only;rw [h2]
theorem qw (y:IV):zC h (d+1) (.ap y)=some y:=rfl
theorem GP (i:Nat) (af:List (List IV)):zC h (d+1) (.aS i af)=some (.slice af):=rfl
theorem yM {cs:List AV} {ys:List IV} (h1:aI (zC h d) cs=some ys):zC h (d+1) (.agg cs)=some (.agg ys):=by
 simp only [zC];rw [h1];rfl
theorem Dt {cs:List AV} {ys:List IV} (h1:aI (zC h d) cs=some ys):zC h (d+1) (.tuple cs)=some (.tuple ys):=by
 simp only [zC];rw [h1];rfl
theorem OQ {α β:Type} (kf:α→IV) (vf:β→IV) (id:Nat) (es:List (α×β)) (ho:h id=some (.map (zp kf vf es))):zC h (d+2) (.map id)=some (qN kf vf (some es)):=OE kf vf h d id es ho
theorem vS {α:Type} (f:α→List IV) (id sz:Nat) (l:List α) (ho:h id=some (.af sz (zb f l))):zC h (d+2) (.Zaj id 0 l.length)=some (.slice (ue f l)):=GG f h d id sz l ho
theorem OR {rs:List dy} {d:Nat} {r:IV} {st:St} (x:AV) (hx:ja rs st=some x) (h:zC (za st.heap) d x=some r):kR rs (J9 d r) .ret st:=OH (by rw [hx];exact h)
end
inductive o6:AV→AV→Prop where
 | refl (x:AV):o6 x x
 | nil:o6 .nil (.ap (.slice []))
 | aU (id:Nat) (af:List (List IV)):o6 (.aS id af) (.ap (.slice af))
 | agg {r s:List AV} (h:eB r s):o6 (.agg r) (.agg s)
 | tuple {r s:List AV} (h:eB r s):o6 (.tuple r) (.tuple s)
theorem mQ.rv {C:Ctx} {g:Gh} {h:Nat→Option aD} {N:Nat→Prop} {w:World} {x y:AV} {v:Value} (hl:mQ x y) (hv:RV C g h N w x v):RV C g h N w y v:=by
 cases hl with
 | refl=>exact hv
 | nil=>rw [xg hv];exact .ap _ _ .nil
 | aU=>cases hv with | aS _ _ _ hr _ _=>exact .ap _ _ hr
theorem o6.rv {C:Ctx} {g:Gh} {h:Nat→Option aD} {N:Nat→Prop} {w:World} {x y:AV} {v:Value} (hl:o6 x y) (hv:RV C g h N w x v):RV C g h N w y v:=by
 cases hl with
 | refl=>exact hv
 | nil=>rw [xg hv];exact .ap _ _ .nil
 | aU=>cases hv with | aS _ _ _ hr _ _=>exact .ap _ _ hr
 | agg hr=>
  cases hv with
  | agg _ vs h1 h2 h3=>
   refine .agg _ vs (by rw [←hr.len];exact h1) h2 fun i c u e1 e2 => ?_
   obtain ⟨q,q1,q2⟩:=hr.get i c e1
   exact q2.rv (h3 i q u q1 e2)
 | tuple hr=>
  cases hv with
  | tuple _ vs h1 h3=>
   refine .tuple _ vs (by rw [←hr.len];exact h1) fun i c u e1 e2 => ?_
   obtain ⟨q,q1,q2⟩:=hr.get i c e1
   exact q2.rv (h3 i q u q1 e2)
inductive lU:List AV→List AV→Prop where
 | nil:lU [] []
 | cons {x y:AV} {r s:List AV} (h:o6 x y) (t:lU r s):lU (x::r) (y::s)
theorem lU.len {l m:List AV} (h:lU l m):l.length=m.length:=by
 induction h with
 | nil=>rfl
 | cons h t ih=>simp [ih]
theorem lU.get {l m:List AV} (h:lU l m):∀ (j:Nat) (s:AV),m[j]?=some s→∃ r,l[j]?=some r∧o6 r s:=by
 induction h with
 | nil=>intro j y hj;simp at hj
 | cons h t ih=>
  intro j y hj
  cases j with
  | zero=>simp at hj;subst hj;exact ⟨_,by simp,h⟩
  | succ j=>simpa using ih j y (by simpa using hj)
inductive nJ:AV→AV→Prop where
 | one {x y:AV} (h:o6 x y):nJ x y
 | OS {r s:List AV} (h:lU r s):nJ (.tuple r) (.tuple s)
theorem nJ.rv {C:Ctx} {g:Gh} {h:Nat→Option aD} {N:Nat→Prop} {w:World} {x y:AV} {v:Value} (hl:nJ x y) (hv:RV C g h N w x v):RV C g h N w y v:=by
 cases hl with
 | one h=>exact h.rv hv
 | OS hr=>
  cases hv with
  | tuple _ vs h1 h3=>
   refine .tuple _ vs (by rw [←hr.len];exact h1) fun i c u e1 e2 => ?_
   obtain ⟨q,q1,q2⟩:=hr.get i c e1
   exact q2.rv (h3 i q u q1 e2)
theorem OT {x y:AV} {heap:List (Nat×aD)} {n:Nat} (hl:nJ x y):bO ⟨[(0,x)],heap,n⟩ ⟨[(0,y)],heap,n⟩:=by
 intro C nt g a w R
 refine ⟨g,⟨⟨R.env.size,R.env.defers,fun t z hz => ?_⟩,R.heap⟩,fun _ _ _ _ E=>E⟩
 simp only [za] at hz
 split at hz
 ·rename_i e;subst e;cases hz;exact hl.rv (R.env.slot 0 x rfl)
 ·cases hz
theorem bO.andThen {s1 s2 s3:St} (h1:bO s1 s2) (h2:bO s2 s3) (hn:s3.next≤s2.next):bO s1 s3:=by
 intro C nt g a w R
 obtain ⟨g1,R1,e1⟩:=h1 C nt g a w R
 obtain ⟨g2,R2,e2⟩:=h2 C nt g1 a w R1
 exact ⟨g2,R2,fun g0 cM w0 a1 E=>e2 g0 cM w0 a1 (e1 g0 cM w0 (ux a1 hn) E)⟩
theorem xd {h:Nat→Option aD} {d:Nat} {α:Type} (f:α→List IV) (id sz n:Nat) (l:List α) (hn:n=l.length) (ho:h id=some (.af sz (zb f l))):zC h (d+2) (.Zaj id 0 n)=some (.slice (ue f l)):=by
 subst hn;exact GG f h d id sz l ho
theorem K5 {st:St} (id sz sz':Nat) (af:List (List AV)) (r j:Nat) (row:List AV) (ho:za st.heap id=some (.af sz af)) (hr:af[r]?=some row) (hj:row[j]?=some .nil) :
  bO st ⟨st.env,zk (zo st.heap st.next (.aU sz' 0)) id (.af sz (af.set r (row.set j (.aS st.next [])))),st.next+1⟩:=by
 intro C nt g a w R
 have Du:id < st.next:=R.heap.key _ _ ho
 obtain ⟨g',E,H,hv⟩:=JX (id:=st.next) R.heap (um _) sz'
 rw [jW] at E H hv
 have e1:bA [(st.next,aD.aU sz' 0)] (za st.heap)=za (zo st.heap st.next (.aU sz' 0)):=by
  funext i;simp only [bA,zr]
 rw [e1] at E H hv
 have ho':za (zo st.heap st.next (.aU sz' 0)) id=some (.af sz af):=by rw [zr,if_neg (by omega)];exact ho
 have hh:∀ i o,za (zk (zo st.heap st.next (.aU sz' 0)) id (.af sz (af.set r (row.set j (.aS st.next []))))) i=some o→(i=id∧o=.af sz (af.set r (row.set j (.aS st.next []))))∨(i≠id∧za (zo st.heap st.next (.aU sz' 0)) i=some o):=fun i o h=>by
  rw [zm] at h
  split at h
  ·rename_i e;exact .inl ⟨e.symm,by cases h;rfl⟩
  ·rename_i e;exact .inr ⟨fun e2=>e e2.symm,h⟩
 have E2:bV g' (za (zo st.heap st.next (.aU sz' 0))) (· < st.next+1) w g' (za (zk (zo st.heap st.next (.aU sz' 0)) id (.af sz (af.set r (row.set j (.aS st.next [])))))) (· < st.next+1) w:={bV.refl g' (za (zo st.heap st.next (.aU sz' 0))) (· < st.next+1) w with
  eu:=fun i b hb _ _ _ _=>.inl hb
  cI:=fun i hb _ _ _ _=>.inl hb
  af:=fun i _ s q h1=>by
   rcases hh i _ h1 with ⟨e1,e2⟩ | ⟨_,e2⟩
   ·subst e1;cases e2;exact ⟨_,ho',by simp⟩
   ·exact ⟨q,e2,rfl⟩
  cR:=fun i _ s l h1=>by
   rcases hh i _ h1 with ⟨_,e2⟩ | ⟨_,e2⟩
   ·cases e2
   ·exact ⟨l,e2,uh _⟩
  maps:=fun i _ es h1=>by
   rcases hh i _ h1 with ⟨_,e2⟩ | ⟨_,e2⟩
   ·cases e2
   ·exact ⟨es,e2⟩
  fJ:=fun i _ ll RR s pe h1=>by
   rcases hh i _ h1 with ⟨_,e2⟩ | ⟨_,e2⟩
   ·cases e2
   ·exact ⟨s,pe,e2⟩}
 refine ⟨g',⟨⟨R.env.size,(R.env.defers.eN E).eN E2,fun t x hx=>((R.env.slot t x hx).mono E).mono E2⟩,⟨H.inj,H.lt,fun i o h1 => ?_,fun i b o h1 h2 => ?_,fun i s l h1 h2 => ?_,H.dX,H.fix.eN E2⟩⟩,fun g0 cM w0 hm E0=>bV.trans (bV.trans E0 E) E2⟩
 ·rcases hh i o h1 with ⟨e1,_⟩ | ⟨_,e2⟩
  ·subst e1;exact H.key _ _ ho'
  ·exact H.key i o e2
 ·rcases hh i o h2 with ⟨e1,e2⟩ | ⟨_,e2⟩
  ·subst e1 e2
   have hro:=H.obj _ b _ h1 ho'
   simp only [cG] at hro ⊢
   obtain ⟨a1,c,e,a2,a3,a4⟩:=hro
   have hrl:r < af.length:=(ua.1 hr).1
   have hjl:j < row.length:=(ua.1 hj).1
   refine ⟨a1,c,e,a2,fun i q hi => ?_,fun i q k x hi hk => ?_⟩
   ·rw [uk] at hi
    split at hi
    ·rename_i e3;subst e3;cases hi;simpa using a3 _ row hr
    ·exact a3 i q hi
   ·rw [uk] at hi
    split at hi
    ·rename_i e3
     subst e3
     cases hi
     rw [uk] at hk
     split at hk
     ·rename_i e4
      subst e4
      cases hk
      obtain ⟨cv,b1,b2,b3⟩:=a4 _ row _ .nil hr hj
      refine ⟨cv,b1,b2,?_⟩
      rw [xg b3]
      exact hv.mono E2
     ·obtain ⟨cv,b1,b2,b3⟩:=a4 _ row k x hr hk
      exact ⟨cv,b1,b2,b3.mono E2⟩
    ·obtain ⟨cv,b1,b2,b3⟩:=a4 i q k x hi hk
     exact ⟨cv,b1,b2,b3.mono E2⟩
  ·exact (H.obj i b o h1 e2).keep E2 rfl rfl
 ·rcases hh i _ h1 with ⟨_,e2⟩ | ⟨_,e2⟩
  ·cases e2
  ·exact H.cQ i s l e2 h2
end
def GQ {σ ρ γ:Type} (Ok:σ→γ→Prop) (W:σ→γ→St) (K:Exit→St→Prop) (out:σ ⊕ ρ) (o:σ ⊕ ρ):Exit→St→Prop
 | .normal,st=>∃ s' c',o=.inl s'∧Ok s' c'∧bO st (W s' c')
 | e,st=>∃ y,o=.inr y∧(out=.inr y→K e st)
theorem OU {C:bz} {nt:Fr} {x:cA} {K:Exit→St→Prop} {st:St} {σ ρ γ:Type} {n:Int} {f:Nat→σ→Option (σ ⊕ ρ)} {s0:σ} {out:σ ⊕ ρ} (hl:aE n f s0=some out)
  (Ok:Nat→σ→γ→Prop) (S:Nat→σ→γ→St) (hmin:∀ i s c,Ok i s c→st.next≤(S i s c).next) (c0:γ) (ox:Ok 0 s0 c0) (hn0:(S 0 s0 c0).next=st.next) (h0:bO st (S 0 s0 c0))
  (body:∀ (i:Nat) (s:σ) (c:γ) (o:σ ⊕ ρ),Ok i s c→(i:Int) < n→IntKind.i64.wrap ((i:Int)+1)=(i:Int)+1→f i s=some o→cB C nt x (GQ (Ok (i+1)) (S (i+1)) K out o) (S i s c))
  (last:∀ (m:Nat) (s:σ) (c:γ),Ok m s c→¬ (m:Int) < n→out=.inl s→cB C nt x (vM (fun _=>False) K) (S m s c)):cB C nt (.loop x) K st:=by
 obtain ⟨hn,hl⟩:=Xb hl
 refine Q7 (ι:={p:Nat×σ×γ // p.1≤n.toNat∧bF f p.1 (n.toNat - p.1) p.2.1=some out∧Ok p.1 p.2.1 p.2.2}) (fun p=>S p.1.1 p.1.2.1 p.1.2.2) (fun p=>n.toNat - p.1.1) ⟨(0,s0,c0),uG _,hl,ox⟩ (fun p=>by rw [hn0];exact hmin _ _ _ p.2.2.2) h0 (Nat.le_of_eq hn0.symm) ?_
 rintro ⟨⟨i,s,c⟩,hi,hf,hok⟩
 simp only at hi hf hok
 rcases Nat.lt_or_ge i n.toNat with h | h
 ·obtain ⟨k,hk⟩:∃ k,n.toNat - i=k+1:=⟨n.toNat - i - 1,by omega⟩
  rw [hk] at hf
  simp only [bF] at hf
  split at hf
  ·cases hf
  ·rename_i r hr
   cases hf
   refine qI ?_ (body i s c _ hok (by omega) (qf (by omega) (by omega)) hr)
   intro e aX hK
   cases e with
   | normal=>obtain ⟨s',_,h1,_⟩:=hK;cases h1
   | _=>obtain ⟨y,h1,h2⟩:=hK;cases h1;exact h2 rfl
  ·rename_i s' hr
   refine qI ?_ (body i s c _ hok (by omega) (qf (by omega) (by omega)) hr)
   intro e aX hK
   cases e with
   | normal=>
    obtain ⟨s'',pY,h1,h2,h3⟩:=hK
    cases h1
    exact ⟨⟨(i+1,s',pY),h,by simp only;rw [show n.toNat - (i+1)=k by omega];exact hf,h2⟩,by simp only;omega,h3⟩
   | _=>obtain ⟨y,h1,h2⟩:=hK;cases h1
 ·obtain rfl:i=n.toNat:=by omega
  simp only [Nat.sub_self,bF,Option.some.injEq] at hf
  refine qI ?_ (last n.toNat s c hok (by omega) hf.symm)
  intro e aX hK
  cases e with
  | normal=>exact hK.elim
  | _=>exact hK
def qa (qs:List Nat) (Ls:List (List Int)):List (List AV):=List.zipWith (fun q L=>[AV.aS q (L.map zc)]) qs Ls
structure di (heap:List (Nat×aD)) (N P:Nat) (qs:List Nat) (Ls:List (List Int)):Prop where
 obj:za heap P=some (.af 1 (qa qs Ls))
 aU:∀ (k q:Nat) (L:List Int),qs[k]?=some q→Ls[k]?=some L→za heap q=some (.aU 1 L.length)
 len:qs.length=Ls.length
 nd:∀ (i j q:Nat),qs[i]?=some q→qs[j]?=some q→i=j
theorem WM {qs:List Nat} {Ls:List (List Int)} (h:qs.length=Ls.length):(qa qs Ls).length=Ls.length:=by simp [qa,h]
theorem V4:∀ (qs:List Nat) (Ls:List (List Int)),qs.length=Ls.length→dQ (qa qs Ls) (zb (zI zc) Ls)
 | [],[],_=>.nil
 | q::qs,L::Ls,h=>.cons (.cons (.aU q (L.map zc)) .nil) (V4 qs Ls (by simpa using h))
theorem WN {qs:List Nat} {Ls:List (List Int)} {k q:Nat} {L:List Int} (h1:qs[k]?=some q) (h2:Ls[k]?=some L):(qa qs Ls)[k]?=some [.aS q (L.map zc)]:=by
 simp [qa,List.getElem?_zipWith,h1,h2]
theorem WO:∀ (qs:List Nat) (Ls:List (List Int)) (k q:Nat) (L:List Int),qs[k]?=some q→(qa qs Ls).set k [.aS q (L.map zc)]=qa qs (Ls.set k L)
 | [],Ls,k,q,L,h=>by simp at h
 | q'::qs,[],k,q,L,h=>by simp [qa]
 | q'::qs,L'::Ls,0,q,L,h=>by simp at h;subst h;rfl
 | q'::qs,L'::Ls,k+1,q,L,h=>by
  have:=WO qs Ls k q L (by simpa using h)
  simp only [qa,List.zipWith_cons_cons,List.set_cons_succ] at this ⊢
  rw [this]
theorem OV (qs:List Nat) (Ls:List (List Int)) (q:Nat) (L:List Int) (h:qs.length=Ls.length):qa (qs++[q]) (Ls++[L])=qa qs Ls++[[.aS q (L.map zc)]]:=by
 simp [qa,List.zipWith_append h]
theorem di.grow {heap heap':List (Nat×aD)} {N N' P:Nat} {qs:List Nat} {Ls:List (List Int)} (h:di heap N P qs Ls) {k q:Nat} {L:List Int} (hq:qs[k]?=some q) (hP:za heap' P=some (.af 1 (qa qs (Ls.set k L)))) (hT:za heap' q=some (.aU 1 L.length))
  (hE:∀ j,j≠P→j≠q→(za heap j).isSome=true→za heap' j=za heap j):di heap' N' P qs (Ls.set k L) where
 obj:=hP
 len:=by simp [h.len]
 nd:=h.nd
 aU:=fun k' q' L' h1 h2=>by
  by_cases e:k'=k
  ·subst e
   have hlt:k' < Ls.length:=by
    have:=(ua.1 h1).1;rw [h.len] at this;exact this
   rw [List.getElem?_set_self hlt] at h2
   cases h2
   rw [hq] at h1;cases h1
   exact hT
  ·rw [List.getElem?_set_ne (Ne.symm e)] at h2
   have h3:=h.aU k' q' L' h1 h2
   rw [hE q' (fun e2=>by rw [e2,h.obj] at h3;cases h3) (fun e2=>e (h.nd k' k q (by rw [←e2];exact h1) hq)) (by rw [h3];rfl)]
   exact h3
section
section
variable {C:Ctx} {g g':Gh} {h h':Nat→Option aD} {N N':Nat→Prop} {w w':World} {id:Nat}
theorem V5 (R:RH C g h N w) (hid:¬ N id) {i sz:Nat} {all:List (List IV)} (hi:h i=some (.af sz (all.map fun r=>r.map AV.ap))) {v0:Value} (pF:RV C g h N w (.Zaj i 0 all.length) v0) :
  ∃ g',(∀ k,k≠id→k≠i→g'.ρ k=g.ρ k)∧(∀ b,g.Z b=0→g.ρ i≠some b→g'.Z b=0)∧bV g h N w g' (bA [(i,.dead),(id,.aU sz all.length)] h) (qj N id) w∧RH C g' (bA [(i,.dead),(id,.aU sz all.length)] h) (qj N id) w∧RV C g' (bA [(i,.dead),(id,.aU sz all.length)] h) (qj N id) w (.aS id all) v0:=by
 have hN:=R.key i _ hi
 have hne:i≠id:=fun e=>hid (e ▸ hN)
 have mF:∀ k,N k→k≠id:=fun k hk e=>hid (e ▸ hk)
 let g':Gh:=⟨fun k=>if k=id then g.ρ i else if k=i then none else g.ρ k,fun b=>if g.ρ i=some b then all.length*sz else g.Z b⟩
 have gO:∀ b,g.ρ i=some b→g.Z b=0:=fun b hb=>(R.obj i b _ hb hi).1
 have GR:∀ b,g.Z b≤g'.Z b:=fun b=>by
  simp only [g'];split
  ·rename_i e;rw [gO b e];exact uG _
  ·exact uh _
 have gL:∀ b,g.ρ i≠some b→g'.Z b=g.Z b:=fun b hb=>by simp only [g',if_neg hb]
 have gz:∀ k o,bA [(i,aD.dead),(id,aD.aU sz all.length)] h k=some o→(k=i∧o=.dead)∨(k=id∧o=.aU sz all.length)∨(k≠i∧k≠id∧h k=some o):=fun k o ho=>by
  simp only [bA] at ho
  split at ho
  ·rename_i e;cases ho;exact .inl ⟨e.symm,rfl⟩
  ·rename_i e
   split at ho
   ·rename_i e2;cases ho;exact .inr (.inl ⟨e2.symm,rfl⟩)
   ·rename_i e2;exact .inr (.inr ⟨fun e3=>e e3.symm,fun e3=>e2 e3.symm,ho⟩)
 have dP:∀ k,k≠id→k≠i→g'.ρ k=g.ρ k:=fun k h1 h2=>by simp only [g',if_neg h1,if_neg h2]
 have pK:g'.ρ id=g.ρ i:=by simp only [g',if_pos]
 have gq:g'.ρ i=none:=by simp only [g',if_neg hne,if_pos]
 have lV:∀ k b,g'.ρ k=some b→(k=id∧g.ρ i=some b)∨(k≠id∧k≠i∧g.ρ k=some b):=fun k b hk=>by
  by_cases h1:k=id
  ·subst h1;rw [pK] at hk;exact .inl ⟨rfl,hk⟩
  ·by_cases h2:k=i
   ·subst h2;rw [gq] at hk;cases hk
   ·rw [dP k h1 h2] at hk;exact .inr ⟨h1,h2,hk⟩
 have E:bV g h N w g' (bA [(i,.dead),(id,.aU sz all.length)] h) (qj N id) w:={
  os:=rfl
  tape:=rfl
  output:=rfl
  size:=uh _
  old:=fun b _ hno=>⟨rfl,gL b fun e=>hno ⟨i,e⟩⟩
  own:=fun b ⟨k,hk⟩=>by
   rcases lV k b hk with ⟨_,h1⟩ | ⟨_,_,h1⟩
   ·exact .inl ⟨i,h1⟩
   ·exact .inl ⟨k,h1⟩
  bW:=GR
  cell:=iF.refl _ _
  shape:=fun b c e hb=>⟨c,hb,rfl⟩
  next:=fun _ hk=>.inl hk
  eu:=fun k b hb o ho hnd hk=>by
   rcases gz k o ho with ⟨_,h2⟩ | ⟨h2,_⟩ | ⟨h1,h2,_⟩
   ·exact absurd h2 hnd
   ·exact absurd h2 (mF k hk)
   ·exact .inl (by rw [dP k h2 h1];exact hb)
  cI:=fun k hb hk o ho hnd=>by
   rcases gz k o ho with ⟨_,h2⟩ | ⟨h2,_⟩ | ⟨h1,h2,_⟩
   ·exact absurd h2 hnd
   ·exact absurd h2 (mF k hk)
   ·exact .inl (by rw [dP k h2 h1];exact hb)
  af:=fun k hk s r ho=>by
   rcases gz k _ ho with ⟨_,h2⟩ | ⟨_,h2⟩ | ⟨_,_,h2⟩
   ·cases h2
   ·cases h2
   ·exact ⟨r,h2,rfl⟩
  cR:=fun k hk s l ho=>by
   rcases gz k _ ho with ⟨_,h2⟩ | ⟨h2,_⟩ | ⟨_,_,h2⟩
   ·cases h2
   ·exact absurd h2 (mF k hk)
   ·exact ⟨l,h2,uh _⟩
  maps:=fun k hk es ho=>by
   rcases gz k _ ho with ⟨_,h2⟩ | ⟨_,h2⟩ | ⟨_,_,h2⟩
   ·cases h2
   ·cases h2
   ·exact ⟨es,h2⟩
  fJ:=fun k hk ll RR s pe ho=>by
   rcases gz k _ ho with ⟨_,h2⟩ | ⟨_,h2⟩ | ⟨_,_,h2⟩
   ·cases h2
   ·cases h2
   ·exact ⟨s,pe,h2⟩}
 have hval:(g.ρ i=none∧all=[]∧v0=.slice none 0 0)∨∃ b cap c e,g.ρ i=some b∧v0=.slice (some ⟨b,0,none⟩) all.length cap∧all.length≤cap∧w.heap[b]?=some (.cells c e (0,0))∧cap*sz≤c.size ∧
   (∀ row∈all,row.length=sz)∧∀ (k:Nat) (row:List IV) (j:Nat) (y:IV),all[k]?=some row→row[j]?=some y→∃ cv,c[k*sz+j]?=some cv∧cv.oneCell'=true∧RI g.Z w y cv:=by
  cases pF with
  | Zaj _ _ _ _ _ _ hp=>
   obtain ⟨_,h2⟩:=hp sz _ hi
   rcases h2 with ⟨a1,a2,a3⟩ | ⟨b,cap,c,e,b1,b2,b3,b4,b5⟩
   ·exact .inl ⟨a1,by simpa using a2,a3⟩
   ·have mG:=R.obj i b _ b1 hi
    obtain ⟨z0,c2,e2,c3,c4,c5⟩:=mG
    rw [b4] at c3
    cases c3
    refine .inr ⟨b,cap,c,e,b1,by simpa using b2,b3,b4,by simpa using b5,fun row hr => ?_,fun k row j y hk hj => ?_⟩
    ·obtain ⟨k,hk⟩:=List.getElem?_of_mem hr
     have:=c4 k (row.map AV.ap) (by rw [ub,hk];rfl)
     simpa using this
    ·obtain ⟨cv,u1,u2,u3⟩:=c5 k (row.map AV.ap) j (.ap y) (by rw [ub,hk];rfl) (by rw [ub,hj];rfl)
     cases u3 with
     | ap _ _ gq=>exact ⟨cv,u1,u2,gq⟩
 refine ⟨g',dP,fun b h1 h2=>by rw [gL b h2];exact h1,E,⟨fun k l b hk hl => ?_,fun k b hk => ?_,fun k o ho => ?_,fun k b o hk ho => ?_,fun k s l ho hn => ?_,fun b hb => ?_,R.fix.eN E⟩,?_⟩
 ·rcases lV k b hk with ⟨h1,h2⟩ | ⟨h1,h2,h3⟩<;>rcases lV l b hl with ⟨h4,h5⟩ | ⟨h4,h5,h6⟩
  ·rw [h1,h4]
  ·exact absurd (R.inj _ _ b h6 h2) h5
  ·exact absurd (R.inj _ _ b h3 h5) h2
  ·exact R.inj _ _ b h3 h6
 ·rcases lV k b hk with ⟨h1,h2⟩ | ⟨h1,h2,h3⟩
  ·exact ⟨(R.lt i b h2).1,.inr h1⟩
  ·exact ⟨(R.lt k b h3).1,.inl (R.lt k b h3).2⟩
 ·rcases gz k o ho with ⟨h1,_⟩ | ⟨h1,_⟩ | ⟨_,_,h1⟩
  ·exact .inl (h1 ▸ hN)
  ·exact .inr h1
  ·exact .inl (R.key k o h1)
 ·rcases lV k b hk with ⟨h1,h2⟩ | ⟨h1,h2,h3⟩
  ·rcases gz k o ho with ⟨h4,_⟩ | ⟨_,h4⟩ | ⟨_,h4,_⟩
   ·exact absurd (h4.symm.trans h1) hne
   ·subst h4
    rcases hval with ⟨a1,_⟩ | ⟨b',cap,c,e,b1,b2,b3,b4,b5,b6,_⟩
    ·rw [a1] at h2;cases h2
    ·rw [b1] at h2;cases h2
     refine ⟨c,e,b4,by simp only [g',if_pos b1],ux (uo _ b3) b5⟩
   ·exact absurd h1 h4
  ·rcases gz k o ho with ⟨h4,_⟩ | ⟨h4,_⟩ | ⟨_,_,h4⟩
   ·exact absurd h4 h2
   ·exact absurd h4 h1
   ·exact (R.obj k b o h3 h4).keep E rfl (gL b fun e=>h2 (R.inj _ _ b h3 e))
 ·rcases gz k _ ho with ⟨_,h1⟩ | ⟨h1,h2⟩ | ⟨h1,h2,h3⟩
  ·cases h1
  ·cases h2
   rw [h1,pK] at hn
   rcases hval with ⟨_,a2,_⟩ | ⟨b,_,_,_,b1,_⟩
   ·rw [a2];rfl
   ·rw [b1] at hn;cases hn
  ·exact R.cQ k s l h3 (by rw [←dP k h2 h1];exact hn)
 ·by_cases e:g.ρ i=some b
  ·exact (R.lt i b e).1
  ·rw [gL b e] at hb;exact R.dX b hb
 ·rcases hval with ⟨a1,a2,a3⟩ | ⟨b,cap,c,e,b1,b2,b3,b4,b5,b6,b7⟩
  ·subst a2 a3
   refine .aS id [] _ .nil (.inr rfl) fun s l hs => ?_
   rcases gz id _ hs with ⟨_,h1⟩ | ⟨_,h1⟩ | ⟨_,h1,_⟩
   ·cases h1
   ·cases h1
    exact ⟨uh _,fun k row hk=>by simp at hk,fun _=>.inl ⟨by rw [pK];exact a1,rfl⟩⟩
   ·exact absurd rfl h1
  ·subst b2
   have o5:g'.Z b=all.length*sz:=by simp only [g',if_pos b1]
   have tS:∀ (k:Nat) (row:List IV),all[k]?=some row→row.length=sz:=fun k row hk=>b6 row (uj hk)
   refine .aS id all _ ?_ (.inr rfl) fun s l hs => ?_
   ·refine .slice all b 0 cap sz (fun k j=>(c[k*sz+j]?).getD default) b3 tS (fun k row j y hk hj => ?_) (fun k row j y hk hj => ?_) (fun k row j y hk hj => ?_)
    ·have h1:=tS k row hk
     have h2:j < row.length:=(ua.1 hj).1
     have h3:k < all.length:=(ua.1 hk).1
     have h4:(k+1)*sz≤all.length*sz:=uo _ h3
     rw [uA] at h4
     rw [o5];omega
    ·obtain ⟨cv,u1,u2,u3⟩:=b7 k row j y hk hj
     rw [uv,qF b4,u1]
     exact ⟨rfl,u2⟩
    ·obtain ⟨cv,u1,u2,u3⟩:=b7 k row j y hk hj
     rw [u1]
     exact u3.mono GR (iF.refl _ _)
   ·rcases gz id _ hs with ⟨_,h1⟩ | ⟨_,h1⟩ | ⟨_,h1,_⟩
    ·cases h1
    ·cases h1
     exact ⟨uh _,tS,fun _=>.inr ⟨b,cap,c,e,by rw [pK];exact b1,rfl,b4,b5⟩⟩
    ·exact absurd rfl h1
end
theorem OW {st:St} (t a0 b0 id sz i sz':Nat) (af:List (List AV)) (r j:Nat) (row:List AV) (all:List (List IV)) (ht:za st.env t=some (.ptr id a0 b0)) (ho:za st.heap id=some (.af sz af)) (hr:af[r]?=some row) (hj:row[j]?=some (.Zaj i 0 all.length))
  (hi:za st.heap i=some (.af sz' (all.map fun r=>r.map AV.ap))) (hne:i≠id) :
  bO st ⟨st.env,zk (zk (zo st.heap st.next (.aU sz' all.length)) i .dead) id (.af sz (af.set r (row.set j (.aS st.next all)))),st.next+1⟩:=by
 intro C nt g a w R
 have Du:id < st.next:=R.heap.key _ _ ho
 have hin:i < st.next:=R.heap.key _ _ hi
 obtain ⟨bo,AW,_⟩:∃ b,g.ρ id=some b∧True:=by
  have:=R.env.slot t _ ht
  cases this with
  | ptr _ _ _ _ _ _ hp=>obtain ⟨b,hb,_⟩:=hp _ _ ho;exact ⟨b,hb,trivial⟩
 obtain ⟨z0,c0,e0,k1,k2,k3⟩:=R.heap.obj id bo _ AW ho
 obtain ⟨OX,q1,q2,q3⟩:=k3 r row j _ hr hj
 obtain ⟨g',dP,rS,E,H,hv⟩:=V5 (id:=st.next) R.heap (um _) hi q3
 rw [jW] at E H hv
 have e1:bA [(i,aD.dead),(st.next,aD.aU sz' all.length)] (za st.heap)=za (zk (zo st.heap st.next (.aU sz' all.length)) i .dead):=by
  funext k;simp only [bA,zm,zr]
 rw [e1] at E H hv
 obtain ⟨mi,AX⟩:∃ hp,hp=zk (zo st.heap st.next (.aU sz' all.length)) i .dead:=⟨_,rfl⟩
 rw [←AX] at E H hv ⊢
 have AY:g'.ρ id=g.ρ id:=dP id (by omega) (fun e=>hne e.symm)
 have ho':za mi id=some (.af sz af):=by rw [AX,zm,if_neg hne,zr,if_neg (by omega)];exact ho
 have hh:∀ k o,za (zk mi id (.af sz (af.set r (row.set j (.aS st.next all))))) k=some o→(k=id∧o=.af sz (af.set r (row.set j (.aS st.next all))))∨(k≠id∧za mi k=some o):=fun k o h=>by
  rw [zm] at h
  split at h
  ·rename_i e;exact .inl ⟨e.symm,by cases h;rfl⟩
  ·rename_i e;exact .inr ⟨fun e2=>e e2.symm,h⟩
 have E2:bV g' (za mi) (· < st.next+1) w g' (za (zk mi id (.af sz (af.set r (row.set j (.aS st.next all)))))) (· < st.next+1) w:={bV.refl g' (za mi) (· < st.next+1) w with
  eu:=fun i b hb _ _ _ _=>.inl hb
  cI:=fun i hb _ _ _ _=>.inl hb
  af:=fun i _ s q h1=>by
   rcases hh i _ h1 with ⟨e1,e2⟩ | ⟨_,e2⟩
   ·subst e1;cases e2;exact ⟨_,ho',by simp⟩
   ·exact ⟨q,e2,rfl⟩
  cR:=fun i _ s l h1=>by
   rcases hh i _ h1 with ⟨_,e2⟩ | ⟨_,e2⟩
   ·cases e2
   ·exact ⟨l,e2,uh _⟩
  maps:=fun i _ es h1=>by
   rcases hh i _ h1 with ⟨_,e2⟩ | ⟨_,e2⟩
   ·cases e2
   ·exact ⟨es,e2⟩
  fJ:=fun i _ ll RR s pe h1=>by
   rcases hh i _ h1 with ⟨_,e2⟩ | ⟨_,e2⟩
   ·cases e2
   ·exact ⟨s,pe,e2⟩}
 refine ⟨g',⟨⟨R.env.size,(R.env.defers.eN E).eN E2,fun t x hx=>((R.env.slot t x hx).mono E).mono E2⟩,⟨H.inj,H.lt,fun i o h1 => ?_,fun i b o h1 h2 => ?_,fun i s l h1 h2 => ?_,H.dX,H.fix.eN E2⟩⟩,fun g0 cM w0 hm E0=>bV.trans (bV.trans E0 E) E2⟩
 ·rcases hh i o h1 with ⟨e1,_⟩ | ⟨_,e2⟩
  ·subst e1;exact H.key _ _ ho'
  ·exact H.key i o e2
 ·rcases hh i o h2 with ⟨e1,e2⟩ | ⟨_,e2⟩
  ·rw [e1,AY,AW] at h1
   have hro:=H.obj _ b _ (by rw [AY,AW];exact h1) ho'
   cases h1
   subst e2
   simp only [cG] at hro ⊢
   obtain ⟨a1,c,e,a2,a3,a4⟩:=hro
   rw [k1] at a2
   cases a2
   have hrl:r < af.length:=(ua.1 hr).1
   have hjl:j < row.length:=(ua.1 hj).1
   refine ⟨a1,c0,e0,k1,fun i q hi => ?_,fun i q k x hi hk => ?_⟩
   ·rw [uk] at hi
    split at hi
    ·rename_i e3;subst e3;cases hi;simpa using a3 _ row hr
    ·exact a3 i q hi
   ·rw [uk] at hi
    split at hi
    ·rename_i e3
     subst e3
     cases hi
     rw [uk] at hk
     split at hk
     ·rename_i e4
      subst e4
      cases hk
      exact ⟨OX,q1,q2,hv.mono E2⟩
     ·obtain ⟨cv,b1,b2,b3⟩:=a4 _ row k x hr hk
      exact ⟨cv,b1,b2,b3.mono E2⟩
    ·obtain ⟨cv,b1,b2,b3⟩:=a4 i q k x hi hk
     exact ⟨cv,b1,b2,b3.mono E2⟩
  ·exact (H.obj i b o h1 e2).keep E2 rfl rfl
 ·rcases hh i _ h1 with ⟨_,e2⟩ | ⟨_,e2⟩
  ·cases e2
  ·exact H.cQ i s l e2 h2
theorem OY {st:St} (t i sz':Nat) (all:List (List IV)) (ht:za st.env t=some (.Zaj i 0 all.length)) (hi:za st.heap i=some (.af sz' (all.map fun r=>r.map AV.ap))) :
  bO st ⟨zk st.env t (.aS st.next all),zk (zo st.heap st.next (.aU sz' all.length)) i .dead,st.next+1⟩:=by
 intro C nt g a w R
 obtain ⟨g',dP,rS,E,H,hv⟩:=V5 (id:=st.next) R.heap (um _) hi (R.env.slot t _ ht)
 rw [jW] at E H hv
 have e1:bA [(i,aD.dead),(st.next,aD.aU sz' all.length)] (za st.heap)=za (zk (zo st.heap st.next (.aU sz' all.length)) i .dead):=by
  funext k;simp only [bA,zm,zr]
 rw [e1] at E H hv
 refine ⟨g',⟨⟨R.env.size,R.env.defers.eN E,fun t' x hx => ?_⟩,H⟩,fun g0 cM w0 hm E0=>E0.trans E⟩
 rw [zm] at hx
 split at hx
 ·rename_i e
  subst e
  cases hx
  exact hv
 ·exact (R.env.slot t' x hx).mono E
end
section
def BZ:List Nat→List AV→List (Nat×AV)→List (Nat×AV)
 | p::ps,x::xs,env=>BZ ps xs (zk env p x)
 | _,_,env=>env
def bz.round (C:bz) (l:Nat):bz:={C.toCtx with ro:=some l,eR:=none,Y:=tK,n8:=fun _ _ _ _ _ _ _ _ h=>h,CV:=fun _ _ _ _ _ _ h=>h.elim}
def OZ (dH L:Nat) (R:LoopState→Option Code→Loop) (KK:AV→List (Nat×aD)→Nat→Prop):Exit→St→Prop
 | .normal,s=>za s.heap dH=some (.lp L R .busy none)∧KK (.ap (.bool true)) (zk s.heap dH (.lp L R .ready none)) (s.next+1)
 | .ret,s=>za s.heap dH=some (.lp L R .busy none)∧KK (.ap (.bool false)) (zk s.heap dH (.lp L R .done (some .ret))) (s.next+1)
 | .exit id,s=>za s.heap dH=some (.lp L R .busy none)∧KK (.ap (.bool false)) (zk s.heap dH (.lp L R .done (some (.exit id)))) (s.next+1)
 | _,_=>False
def O0 (C:bz) (nt:Fr) (dH L:Nat) (R:LoopState→Option Code→Loop) (y:cA) (KK:AV→List (Nat×aD)→Nat→Prop) (s:St):Prop:=
 za s.heap dH=some (.lp L R .ready none)∧cB (C.round L) nt y (OZ dH L R KK) ⟨s.env,zk s.heap dH (.lp L R .busy none),s.next+1⟩
def QA (C:bz) (nt:Fr) (env:List (Nat×AV)) (dH L:Nat) (R:LoopState→Option Code→Loop) (ps:List Nat) (x y:cA):Nat→Nat→List AV→List (Nat×aD)→Nat→(AV→List (Nat×aD)→Nat→Prop)→Prop:=
 fun l id args heap next KK=>l=L∧id=dH∧args.length=ps.length∧za heap dH=some (.lp L R .ready none) ∧
  cB (C.round L) nt x (vM (O0 C nt dH L R y KK) (fun _ _=>False)) ⟨BZ ps args env,heap,next⟩
def GU (env:List (Nat×AV)) (dH L:Nat) (R:LoopState→Option Code→Loop) (K:Exit→St→Prop) (heap:List (Nat×aD)) (next:Nat):Prop:=
 (za heap dH=some (.lp L R .ready none)∧K .normal ⟨env,zk heap dH (.lp L R .exhausted none),next+1⟩) ∨
 (za heap dH=some (.lp L R .done (some .ret))∧K .ret ⟨env,zk heap dH (.lp L R .exhausted (some .ret)),next+1⟩) ∨
 (∃ id,za heap dH=some (.lp L R .done (some (.exit id)))∧K (.exit id) ⟨env,zk heap dH (.lp L R .exhausted (some (.exit id))),next+1⟩)
section
variable {C:bz} {nt:Fr} {g g':Gh} {st:St} {a:Act} {w:World}
theorem O1 {code:Code} {f:aZ} {ps:List Nat} {x y:cA} (hc:comp C nt.n code=some (.range f ps x y)):∃ fo pL p q,code=.rangeFunc fo pL p q∧f=C.bl fo∧ps=pL.toList∧(∀ t∈ps,t < nt.n)∧comp C nt.n p=some x∧comp C nt.n q=some y:=by
 cases code<;>simp only [comp] at hc<;>(repeat' split at hc)<;>cases hc
 rename_i hall _ _ h1 h2
 exact ⟨_,_,_,_,rfl,rfl,rfl,fun t ht=>by have:=ul.1 hall t ht;simpa using this,h1,h2⟩
theorem V6 {env:List (Nat×AV)} {dH L:Nat} {R:LoopState→Option Code→Loop} {ps:List Nat} {x y:cA}:∀ l id args heap next (K K':AV→List (Nat×aD)→Nat→Prop),(∀ r h n,K r h n→K' r h n)→QA C nt env dH L R ps x y l id args heap next K→QA C nt env dH L R ps x y l id args heap next K':=by
 rintro l id args heap next K K' hk ⟨h1,h2,h3,h4,h5⟩
 refine ⟨h1,h2,h3,h4,qI (fun e s hs => ?_) h5⟩
 cases e with
 | normal=>
  refine ⟨hs.1,qI (fun e s hs => ?_) hs.2⟩
  cases e with
  | normal=>exact ⟨hs.1,hk _ _ _ hs.2⟩
  | ret=>exact ⟨hs.1,hk _ _ _ hs.2⟩
  | exit id=>exact ⟨hs.1,hk _ _ _ hs.2⟩
  | _=>exact hs
 | _=>exact hs
theorem GV {h:Nat→Option aD} {N:Nat→Prop}:∀ (ps:List Nat) (args:List AV) (vs:List Value) (env:List (Nat×AV)) (a:Act),(∀ t∈ps,t < nt.n)→RE C nt g env h N a w→nG C g h N w args vs →
  RE C nt g (BZ ps args env) h N {a with tmps:=(ps.zip vs).foldl (fun t pv=>t.setIfInBounds pv.1 pv.2) a.tmps} w
 | [],args,vs,env,a,_,R,_=>by cases args<;>exact R
 | p::ps,[],vs,env,a,_,R,hv=>by
  have:vs=[]:=uq hv.1.symm
  subst this
  exact R
 | p::ps,x::xs,[],env,a,_,R,hv=>by have:=hv.1;simp at this
 | p::ps,x::xs,v::vs,env,a,hp,R,hv=>by
  have R1:=R.put p (hp p (by simp)) (hv.2 0 x v rfl rfl)
  have:=GV ps xs vs (zk env p x) (a.put (some p) v) (fun t ht=>hp t (by simp [ht])) R1 ⟨by have:=hv.1;simpa using this,fun j y u hj hu=>hv.2 (j+1) y u (by simpa using hj) (by simpa using hu)⟩
  exact this
theorem Y8 {heap:List (Nat×aD)} {next:Nat} {dH L:Nat} {R:LoopState→Option Code→Loop} {s s':LoopState} {pe lW:Option Code} (H:RH C g (za heap) (· < next) w) (ho:za heap dH=some (.lp L R s pe)) (hρ:g.ρ dH=some L) :
  w.heap[L]?=some (.loop (R s pe))∧bV g (za heap) (· < next) w g (za (zk heap dH (.lp L R s' lW))) (· < next+1) (w.putObj L (.loop (R s' lW)))∧RH C g (za (zk heap dH (.lp L R s' lW))) (· < next+1) (w.putObj L (.loop (R s' lW))):=by
 have H0:=H.obj dH L _ hρ ho
 obtain ⟨hz,_,hb⟩:=H0
 have E:=X1 (id:=next) H hρ hz (.lp L R s pe) (.lp L R s' lW) ho (.loop (R s' lW)) ⟨rfl,rfl⟩ (fun c e hc=>by rw [hb] at hc;cases hc)
 have hR:=VB (id:=next) H hρ (.lp L R s' lW) (.loop (R s' lW)) (fun _ _ h=>by cases h) E ⟨hz,rfl,by rw [zG w L _ (qb hb),if_pos rfl]⟩
 rw [jW] at E hR
 have e1:bA [(dH,aD.lp L R s' lW)] (za heap)=za (zk heap dH (.lp L R s' lW)):=by
  funext i;simp only [bA,zm]
 rw [e1] at E hR
 exact ⟨hb,E,hR⟩
theorem O3 (hro:C.ro=none) {f:aZ} {ps:List Nat} {x y:cA} {K:Exit→St→Prop} {gf:Nat} {bt:List AV} (hf:zd st.env f=.func gf [] bt) {F:dw} (hF:qn C gf=some F.erase) (hn:bt.length+1≤F.nt)
  (h:∀ (L:Nat) (R:LoopState→Option Code→Loop) (eR:Option (Gh×St×World)) ym yk (B:Nat),
   cB ⟨C.toCtx,none,eR,QA C nt st.env st.next L R ps x y,ym,yk⟩ ⟨F.nt,B⟩ F.body (C1 F fun _ heap next=>GU st.env st.next L R K heap next)
    ⟨jn 0 (.eH L st.next::bt),zk st.heap st.next (.lp L R .ready none),st.next+1⟩):cB C nt (.range f ps x y) K st:=by
 intro code hc g a w Rl hI
 obtain ⟨fo,pL,p,q,rfl,rfl,rfl,hps,hp,hq⟩:=O1 hc
 rw [hro]
 refine wpIn_rangeFunc ?_
 intro fn _
 have hv:=Zq Rl fo
 rw [hf] at hv
 generalize hval:a.eval fo=v at hv
 cases hv with
 | func _ _ _ vf vc hlf hlc FJ eX=>
 obtain rfl:vf=[]:=uq hlf.symm
 obtain ⟨R,o7⟩:∃ R:LoopState→Option Code→Loop,R=fun s pe=>{state:=s,pending:=pe,fn,tmps:=a.tmps,params:=pL,assign:=p,body:=q,defers:=w.heap.size}:=⟨_,rfl⟩
 have hRs:∀ s s' pe lW,{R s pe with state:=s',pending:=lW}=R s' lW:=fun s s' pe lW=>by rw [o7]
 have hB:Below w.heap.size w (w.alloc (.deferred (some []))):=(Below.refl _ w).alloc (uh _) _
 have E0:bV g (za st.heap) (· < st.next) w g (za st.heap) (· < st.next) (w.alloc (.deferred (some []))):=wc Rl.heap hB (fun _ _=>rfl)
 have H0:RH C g (za st.heap) (· < st.next) (w.alloc (.deferred (some []))):=Zs Rl.heap hB (fun _ _=>rfl) (fun b hb=>by have:=Rl.heap.dX b hb;simp;omega)
 have hid:¬ (st.next < st.next):=um _
 have E1:=X0 (id:=st.next) H0 hid (.loop (R .ready none)) (.lp (w.heap.size+1) R .ready none) 0
 have H1:=CE (id:=st.next) H0 hid (.loop (R .ready none)) (.lp (w.heap.size+1) R .ready none) 0 ⟨by simp [Gh.at],by simp,zW _ _⟩
 have e1:bA [(st.next,aD.lp (w.heap.size+1) R .ready none)] (za st.heap)=za (zk st.heap st.next (.lp (w.heap.size+1) R .ready none)):=by
  funext i;simp only [bA,zm]
 rw [jW,e1] at E1 H1
 obtain ⟨W1,Dv⟩:∃ W1,(w.alloc (.deferred (some []))).alloc (.loop (R .ready none))=W1:=⟨_,rfl⟩
 rw [Dv] at E1 H1
 have hl:(w.alloc (.deferred (some []))).heap.size=w.heap.size+1:=by simp
 rw [hl] at E1 H1
 obtain ⟨g1,gp⟩:∃ g1,g.at st.next (w.heap.size+1) 0=g1:=⟨_,rfl⟩
 have hρ:g1.ρ st.next=some (w.heap.size+1):=by rw [←gp];simp [Gh.at]
 have hown:¬ vE g1 w.heap.size:=by
  rw [←gp]
  rintro ⟨i,hi⟩
  simp only [Gh.at] at hi
  split at hi
  ·have:=Option.some.inj hi;omega
  ·have:=(Rl.heap.lt i _ hi).1;omega
 rw [gp] at E1 H1
 have sI:=bV.trans E0 E1
 have O5:W1.heap[w.heap.size]?=some (.deferred (some [])):=by
  rw [←Dv];exact (qz _ _ (by simp)).trans (zW _ _)
 have M1:Marks nt.B g1 W1 ({target:=.collected w.heap.size,args := #[]}::a.defers):=by
  obtain ⟨m0,Ds,m1,m2,m3⟩:=Rl.env.defers
  refine ⟨ux m0 sI.size,w.heap.size::Ds,by rw [m1];rfl,List.nodup_cons.2 ⟨fun hm => ?_,m2⟩,fun D hD => ?_⟩
  ·have:=(uu.1 (m3 _ hm).2.1).1;omega
  ·rcases ug.1 hD with rfl | hD
   ·exact ⟨m0,O5,hown⟩
   ·obtain ⟨n1,n2,n3⟩:=m3 D hD
    have hlt:=(uu.1 n2).1
    exact ⟨n1,(sI.old D hlt n3).1.trans n2,fun ho=>(sI.own D ho).elim n3 (fun h=>by omega)⟩
 have yk:∀ l id args heap next KK,QA C nt st.env st.next (w.heap.size+1) R pL.toList x y l id args heap next KK→∀ (g':Gh) (w':World) (vs:List Value),RH C g' (za heap) (· < next) w'→nG C g' (za heap) (· < next) w' args vs→(∀ R s pe,za heap id=some (.lp l R s pe)→g'.ρ id=some l) →
   bV g1 (za (zk st.heap st.next (.lp (w.heap.size+1) R .ready none))) (· < st.next+1) W1 g' (za heap) (· < next) w' →
   YieldAt Fence.wide 0 C.P l vs.toArray w' fun e w''=>∃ v r heap' next' g'',e=.returned v∧KK r heap' next'∧bV g' (za heap) (· < next) w' g'' (za heap') (· < next') w''∧RH C g'' (za heap') (· < next') w''∧RV C g'' (za heap') (· < next') w'' r v:=by
  rintro l id args heap next KK ⟨rfl,rfl,hlen,mR,hwp⟩ g' w' vs H' hvs CX E'
  have GW:=CX R _ _ mR
  have hb':w'.heap[w.heap.size+1]?=some (.loop (R .ready none)):=(H'.obj _ _ _ GW mR).2.2
  have Dw:vs.toArray.size=(R .ready none).params.size:=by rw [o7];have:=hvs.1;simp only [List.size_toArray];rw [←this,hlen];simp
  have hy:=run_yield (P:=C.P) hb' Dw
  refine ⟨_,_,_,_,hy,?_⟩
  rw [o7]
  simp only
  refine roundIn_of_wpIn trivial ?_
  have AZ:=bV.trans sI E'
  have O6:RE C nt g' st.env (za heap) (· < next) {a with defers:=[]} w':=⟨Rl.env.size,Marks.nil _ (ux Rl.env.defers.1 AZ.size),fun t z hz=>(Rl.env.slot t z hz).mono AZ⟩
  have O7:=GV pL.toList args vs st.env {a with defers:=[]} hps O6 hvs
  have hz:(pL.zip vs.toArray).foldl (fun tmps (t,a)=>tmps.setIfInBounds t a) a.tmps=(pL.toList.zip vs).foldl (fun t pv=>t.setIfInBounds pv.1 pv.2) a.tmps:=by
   rw [←Array.foldl_toList];simp
  rw [hz]
  refine Code.wpIn_mono ?_ (hwp p hp g' _ w' ⟨O7,H'⟩ trivial)
  rintro e a1 w1 ⟨nR,Dx,hk,R1,E2⟩
  cases e with
  | normal=>
   obtain ⟨hk1,hk2⟩:=hk
   have GX:Dx.ρ st.next=some (w.heap.size+1):=by
    rcases E2.eu _ _ GW _ hk1 (by simp) (H'.key _ _ mR) with h4 | ⟨_,_,_,_,_,e2,_⟩
    ·exact h4
    ·cases e2
   obtain ⟨pM,E3,H3⟩:=Y8 (s':=.busy) (lW:=none) R1.heap hk1 GX
   refine ⟨_,run_beginRound pM (by rw [o7]),?_⟩
   have e3:({R .ready none with state:=.busy}:Loop)=R .busy none:=by rw [o7]
   rw [e3]
   have R3:Rel C nt Dx ⟨nR.env,zk nR.heap st.next (.lp (w.heap.size+1) R .busy none),nR.next+1⟩ a1 (w1.putObj (w.heap.size+1) (.loop (R .busy none))):=⟨R1.env.mono E3,H3⟩
   refine Code.wpIn_mono ?_ (hk2 q hq Dx a1 _ R3 trivial)
   rintro e a4 w4 ⟨Dy,g4,iC,R4,E4⟩
   have fin:∀ (jump:Option Code),za Dy.heap st.next=some (.lp (w.heap.size+1) R .busy none)→KK (.ap (.bool jump.isNone)) (zk Dy.heap st.next (.lp (w.heap.size+1) R (if jump.isNone then .ready else .done) jump)) (Dy.next+1) →
     ∃ v w'',(Instr.endRound (w.heap.size+1) jump).run C.P w4=.ok v w''∧∃ v' r heap' next' g'',Ending.returned v=.returned v'∧KK r heap' next'∧bV g' (za heap) (· < next) w' g'' (za heap') (· < next') w''∧RH C g'' (za heap') (· < next') w''∧RV C g'' (za heap') (· < next') w'' r v':=fun jump h5 h6=>by
    have O8:g4.ρ st.next=some (w.heap.size+1):=by
     rcases E4.eu _ _ GX _ h5 (by simp) (R3.heap.key st.next (.lp (w.heap.size+1) R .busy none) (by simp only [zm,if_true])) with h7 | ⟨_,_,_,_,_,e2,_⟩
     ·exact h7
     ·cases e2
    obtain ⟨O9,E5,H5⟩:=Y8 (s':=if jump.isNone then .ready else .done) (lW:=jump) R4.heap h5 O8
    have hrun:=run_endRound (P:=C.P) jump O9
    have e5:({R .busy none with state:=if jump.isNone then .ready else .done,pending:=jump}:Loop)=R (if jump.isNone then .ready else .done) jump:=by rw [o7]
    rw [e5] at hrun
    exact ⟨_,_,hrun,_,_,_,_,g4,rfl,h6,bV.trans (bV.trans (bV.trans E2 E3) E4) E5,H5,.ap _ _ (.bool _)⟩
   cases e with
   | normal=>exact fin none iC.1 iC.2
   | ret=>exact fin (some .ret) iC.1 iC.2
   | exit id=>exact fin (some (.exit id)) iC.1 iC.2
   | _=>exact iC.elim
  | _=>exact hk.elim
 have hargs:nG C g1 (za (zk st.heap st.next (.lp (w.heap.size+1) R .ready none))) (· < st.next+1) W1 (.eH (w.heap.size+1) st.next::bt) (.func (.yield (w.heap.size+1)) #[] #[]::vc):=by
  refine ⟨by simp [hlc],fun j z u hj hu => ?_⟩
  cases j with
  | zero=>
   simp at hj hu
   subst hj hu
   exact .eH _ _ (uF _) fun R' s pe he=>hρ
  | succ j=>exact (eX j z u (by simpa using hj) (by simpa using hu)).mono sI
 have gh:=WJ (C:=⟨C.toCtx,none,some (g1,⟨[],zk st.heap st.next (.lp (w.heap.size+1) R .ready none),st.next+1⟩,W1),QA C nt st.env st.next (w.heap.size+1) R pL.toList x y,V6,yk⟩) rfl hF (by simpa [Nat.add_comm] using hn)
  (h (w.heap.size+1) R (some (g1,⟨[],zk st.heap st.next (.lp (w.heap.size+1) R .ready none),st.next+1⟩,W1)) V6 yk) H1 hargs (bV.refl _ _ _ _)
 obtain ⟨GY,codeF,Dz,sJ,sK,_⟩:=Zt hF
 have eg:∀ args w,(callFunc (C.ez gf) args).run C.P w=.ok (.enter (C.ez gf) args) w:=fun args w=>by
  have h4:¬ GY.body=none:=fun h=>by simp [h] at sJ
  have h5 : ¬ GY.name = "runtime.NumGoroutine" := fun h => by simp [h] at sK
  simp [callFunc,Dz,h4,h5]
 refine ⟨w.heap.size+1,[{target:=.collected w.heap.size,args := #[]}],W1,{target:=.fn (.func (C.ez gf)) vc.toArray,args := #[.func (.yield (w.heap.size+1)) #[] #[]]},W1,C.ez gf,
  #[.func (.yield (w.heap.size+1)) #[] #[]]++vc.toArray,W1,?_,?_,fun _ _=>trivial,?_,fun h=>(by cases h),?_⟩
 ·rw [←Dv,o7];exact run_enterLoop_outer _ _ _ _ _
 ·simp only [resolve,hval]
  simp [go_sem]
 ·simp [invoke,go_sem,eg]
 ·have mL : #[Value.func (.yield (w.heap.size+1)) #[] #[]]++vc.toArray=(Value.func (.yield (w.heap.size+1)) #[] #[]::vc).toArray:=by apply Array.ext';simp
  rw [mL]
  refine (callsIn_wide.2 gh).mono ?_
  rintro e w2 ⟨v,r,heap',next',g2,rfl,hK,E2,H2,_⟩
  have fin:∀ (s:LoopState) (pe:Option Code),s≠.busy→za heap' st.next=some (.lp (w.heap.size+1) R s pe)→(Instr.endLoop (w.heap.size+1)).run C.P w2=.ok pe (w2.putObj (w.heap.size+1) (.loop (R .exhausted pe))) ∧
    Rel C nt g2 ⟨st.env,zk heap' st.next (.lp (w.heap.size+1) R .exhausted pe),next'+1⟩ {a with defers:={target:=.collected w.heap.size,args := #[]}::a.defers} (w2.putObj (w.heap.size+1) (.loop (R .exhausted pe))) ∧
    dF g st w g2 ⟨st.env,zk heap' st.next (.lp (w.heap.size+1) R .exhausted pe),next'+1⟩ (w2.putObj (w.heap.size+1) (.loop (R .exhausted pe))):=fun s pe hs ho=>by
   have Pa:g2.ρ st.next=some (w.heap.size+1):=by
    rcases E2.eu _ _ hρ _ ho (by simp) (uF _) with h4 | ⟨_,_,_,_,_,e2,_⟩
    ·exact h4
    ·cases e2
   obtain ⟨mC,E3,H3⟩:=Y8 (s':=.exhausted) (lW:=pe) H2 ho Pa
   have hrun:=run_endLoop (P:=C.P) mC (by rw [o7];exact hs)
   have e5:({R s pe with state:=.exhausted}:Loop)=R .exhausted pe:=by rw [o7]
   have e6:(R s pe).pending=pe:=by rw [o7]
   rw [e5,e6] at hrun
   have DA:=bV.trans E2 E3
   exact ⟨hrun,⟨⟨Rl.env.size,M1.eN DA,fun t z hz=>((Rl.env.slot t z hz).mono sI).mono DA⟩,H3⟩,bV.trans sI DA⟩
  rcases hK with ⟨h1,h2⟩ | ⟨h1,h2⟩ | ⟨id,h1,h2⟩
  ·obtain ⟨f1,f2,f3⟩:=fin _ _ (by simp) h1
   exact ⟨none,_,f1,_,g2,h2,f2,f3⟩
  ·obtain ⟨f1,f2,f3⟩:=fin _ _ (by simp) h1
   exact ⟨some .ret,_,f1,wpIn_ret ⟨_,g2,h2,f2,f3⟩⟩
  ·obtain ⟨f1,f2,f3⟩:=fin _ _ (by simp) h1
   exact ⟨some (.exit id),_,f1,wpIn_exit ⟨_,g2,h2,f2,f3⟩⟩
end
end
end Go.Proofs.YtlpmnmbebkdocaaGreatDoor
