/-
  Regions run by the kernel: what is not decided by reckoning (tests, lengths, elements, answers of calls) is told ahead ('Orc'), and what is told is asked for as a list of facts.
  Forgetting, and the end of a function, by the kernel.
  Slices that are nil or not; renaming; copies of slices (slices.Clone).
  A slice with an owner that is written no more may be taken for data.
  Loops whose states have names that are found on the way; slices of slices that grow.
  A slice with an owner that will only grow may be taken for one that grows.
  The abstract machine: ranges over functions. The iterator's code is run where the loop stands; its calls of yield run the loop's body.
  An object whose cells are slices that grow: the tips have names of a range of their own, behind a mark in the list of objects.
-/
import Derived.Test.YtlpmnmbebkdocaaGreatDoorTC04
namespace Go.Proofs.YtlpmnmbebkdocaaGreatDoor
open Go.RowKit
set_option linter.unusedSimpArgs false
set_option linter.unusedVariables false
section
inductive Orc where
  | g (b:Bool)
  | n (k:Int)
  | r (row:List IV)
  | v (x:IV)
  | w (ids:List Nat) (ivs:List IV) (x:IV)
  | s (rows:List (List IV))
  | k (row:Nat)
  | ar (row:List AV)
  | aw (row:List AV) (rows:List (List AV))
  | m (n:Nat) (rows:List (List AV))
  | a (rows:List (List IV)) (n:Nat)
  | b (rows:List (List AV)) (n:Nat)
  | c (l:List Nat) (m:Nat) (r:AV) (ups:List (Nat×Zaf)) (d:Nat)
  | l (x:AV) (b:Bool)
  | u (es:List (IV×AV))
def zh5 (rows:List (List IV)) (n:Int) (row:List IV):Prop:=0≤n∧rows[n.toNat]?=some row
def KH (rows:List (List IV)) (k:Int):Prop:=(rows.length:Int)=k
def zh6 (rows:List (List IV)) (sz:Nat) (a b:Int) (r:List (List IV)):Prop:=0≤a∧a≤b∧b≤(rows.length:Int)∧(rows.all fun row=>row.length == sz)=true∧(rows.take b.toNat).drop a.toNat=r
def Vh (op:BinOp) (a b r:IV):Prop:=vM op a b=some r
def JE (n:Int) (off len row:Nat):Prop:=0≤n∧n < (len:Int)∧off+n.toNat=row
def Vi (rows:List (List AV)) (r:Nat) (row:List AV):Prop:=rows[r]?=some row
def zh7 (rows:List (List AV)) (r:Nat) (row new:List AV) (rows':List (List AV)):Prop:=rows[r]?=some row∧rows.set r new=rows'
def zfe (n:Int) (by_:Nat) (zero:List AV) (k:Nat) (rows:List (List AV)):Prop:=(0≤n∧n < 2 ^ 31∧n*by_≤140737488355328)∧n.toNat=k∧List.replicate k zero=rows
def zgy (sz:Nat) (rows new rows':List (List AV)) (len:Nat):Prop:=len=rows.length∧new.length=len∧(new.all fun row=>row.length == sz)=true∧new=rows'
def zff (sz by_:Nat) (old new rows:List (List IV)) (len k:Nat):Prop:=(new.all fun row=>row.length == sz)=true∧old.length=len∧(len+new.length)*by_≤140737488355328∧old++new=rows∧len+new.length=k
def zkb (sz by_:Nat) (old new rows:List (List AV)) (len k:Nat):Prop:=(new.all fun row=>row.length == sz)=true∧len=old.length∧(len+new.length)*by_≤140737488355328∧old++new=rows∧len+new.length=k
def YV (str:Bool) (zero:AV) (k:IV) (es:List (IV×AV)) (x:AV) (b:Bool):Prop:=(vN str k&&xf k es)=true∧((ql k es=some x∧b=true)∨(ql k es=none∧zero=x∧b=false))
def zfg (str:Bool) (k:IV) (v:AV) (es es':List (IV×AV)):Prop:=(vN str k&&xf k es)=true∧qx k v es=es'
def zcd (str:Bool) (zero:AV) (k y:IV) (x:AV) (b:Bool):Prop:=∃ es,jq (fun _=>none) (.imm y)=some es∧YV str zero k es x b
def zh8 (neg:Bool) (y r:IV):Prop:=∃ b,wK (fun _=>none) (.imm y)=some b∧r=.bool (if neg then !b else b)
def zce (args:List AV) (objs:List (Nat×Zaf)) (ivs:List IV):Prop:=mapO (zx (za objs) 5) args=some ivs
def inD (D:List Nat):Opd→Bool
  | .t n=>D.contains n
  | .c _=>true
  | .m _ _=>false
abbrev xu:=Option (AV×List (Nat×Zaf)×List Nat×List Orc×List Prop×Nat)
def q8 (op:AOp) (orc:List Orc) (st:St):xu:=match evalOp op (zd st.env) (za st.heap) st.next with
  | some (r,ups)=>some (r,ups,zg op (zd st.env),orc,[],0)
  | none=>none
def zgz (op:AOp) (orc:List Orc) (st:St) (lit:Bool) (a b:AV):AV→xu
  | .imm (.bool x)=>match lit with
    | true=>match x with
      | true=>some (a,[],zg op (zd st.env),orc,[],0)
      | false=>some (b,[],zg op (zd st.env),orc,[],0)
    | false=>match orc with
      | .g true::o=>some (a,[],zg op (zd st.env),o,[x=true],0)
      | .g false::o=>some (b,[],zg op (zd st.env),o,[x=false],0)
      | _=>none
  | _=>none
def zh9 (op:AOp) (orc:List Orc) (st:St):AV→xu
  | .imm (.slice rows) | .Zas _ rows=>match orc with
    | .n k::o=>some (.imm (.int .i64 k),[],zg op (zd st.env),o,[KH rows k],0)
    | _=>none
  | _=>q8 op orc st
def zia (op:AOp) (sz:Nat) (orc:List Orc) (st:St) (i:AV):AV→xu
  | .imm (.slice rows) | .Zas _ rows=>match i with
    | .imm (.int _ n)=>match orc with
      | .r row::o=>if row.length=sz then some (.eptr row,[],zg op (zd st.env),o,[zh5 rows n row],0) else none
      | _=>none
    | _=>none
  | .Zal j off len=>match orc with
    | .k row::o=>match i with
      | .imm (.int _ n)=>match za st.heap j with
        | some (.rows sz' _)=>if sz'=sz then some (.ptr j row 0,[],zg op (zd st.env),o,[JE n off len row],0) else none
        | _=>none
      | _=>none
    | _=>q8 op orc st
  | _=>q8 op orc st
def zgA (op:AOp) (len sz:Nat) (orc:List Orc) (st:St) (i x:AV):xu:=match orc with
  | .k row::o=>match x with
    | .ptr j 0 0=>match i with
      | .imm (.int _ n)=>match za st.heap j with
        | some (.rows sz' _)=>if sz'=sz then some (.ptr j row 0,[],zg op (zd st.env),o,[JE n 0 len row],0) else none
        | _=>none
      | _=>none
    | _=>none
  | _=>q8 op orc st
def zib (op:AOp) (bop:BinOp) (orc:List Orc) (st:St) (x y:AV):xu:=match bop with
  | .quo | .rem | .shl | .shr=>match x,y with
    | .imm a,.imm b=>match orc with
      | .v r::o=>some (.imm r,[],zg op (zd st.env),o,[Vh bop a b r],0)
      | _=>none
    | _,_=>none
  | _=>q8 op orc st
def zcf (st:St) (dflt:Int):Option Opd→Option Int
  | none=>some dflt
  | some y=>match zd st.env y with
    | .imm (.int _ n)=>some n
    | _=>none
def zic (op:AOp) (sz:Nat) (orc:List Orc) (st:St) (lo hi:Option Opd):AV→xu
  | .imm (.slice rows)=>match zcf st 0 lo,zcf st (rows.length:Int) hi,orc with
    | some a,some b,.s r::o=>some (.imm (.slice r),[],zg op (zd st.env),o,[zh6 rows sz a b r],0)
    | _,_,_=>none
  | _=>none
def zcg (C:Ctx) (orc:List Orc) (st:St) (args:List AV):AV→xu
  | .func f first caps=>match orc with
    | .v x::o=>match mapO (zx (za st.heap) 5) (first++args++caps) with
      | some ivs=>match (first++args++caps).all (jO 5) with
        | true=>some (.imm x,[],[],o,[APure C f ivs x],0)
        | false=>none
      | none=>none
    | .w ids ivs x::o=>match xx st.heap ids with
      | some objs=>match xh x with
        | true=>some (.imm x,[],ids,o,[APure C f ivs x,zce (first++args++caps) objs ivs],0)
        | false=>none
      | none=>none
    | .c l m r ups d::o=>match xx st.heap l with
      | some objs=>match ke l m st.next with
        | true=>some (r,ups,l,o,[CallP C f (first++args++caps) l m st.next objs r ups d],d)
        | false=>none
      | none=>none
    | _=>none
  | _=>none
def zgB (op:AOp) (agg:Bool) (n:Nat) (orc:List Orc) (st:St) (x:AV):xu:=match orc with
  | .ar row::o=>match x with
    | .ptr i r f=>match za st.heap i with
      | some (.rows _ rows)=>match agg with
        | true=>if f+n≤row.length then some (.agg ((row.drop f).take n),[],zg op (zd st.env),o,[Vi rows r row],0) else none
        | false=>match row[f]? with
          | some c=>some (c,[],zg op (zd st.env),o,[Vi rows r row],0)
          | none=>none
      | _=>none
    | _=>none
  | _=>q8 op orc st
def zdI (op:AOp) (n:Nat) (orc:List Orc) (st:St) (x:AV) (v:Option (List AV)):xu:=match orc with
  | .aw row rows'::o=>match x with
    | .ptr i r f=>match v with
      | some cs=>match za st.heap i with
        | some (.rows sz rows)=>if cs.length=n∧f+n≤row.length then some (.undef,[(i,.rows sz rows')],zg op (zd st.env),o,[zh7 rows r row (qQ row f cs) rows'],0) else none
        | _=>none
      | none=>none
    | _=>none
  | _=>q8 op orc st
def zid (op:AOp) (sz by_:Nat) (zero:List AV) (orc:List Orc) (st:St) (x:AV):xu:=match orc with
  | .m k rows::o=>match x with
    | .imm (.int .i64 n)=>some (.Zal st.next 0 k,[(st.next,.rows sz rows)],zg op (zd st.env),o,[zfe n by_ zero k rows],0)
    | _=>none
  | _=>q8 op orc st
def zie (op:AOp) (sz by_:Nat) (orc:List Orc) (st:St) (x:AV) (s:AV):xu:=match orc with
  | .a rows k::o=>match xB (za st.heap) x with
    | some new=>match s with
      | .nil=>some (.Zas st.next rows,[(st.next,.tip sz k)],zg op (zd st.env),o,[zff sz by_ [] new rows 0 k],0)
      | .Zas i old=>match za st.heap i with
        | some (.tip sz' len)=>if sz'=sz then some (.Zas i rows,[(i,.tip sz k)],zg op (zd st.env),o,[zff sz by_ old new rows len k],0) else none
        | _=>none
      | _=>none
    | none=>none
  | .b rows k::o=>match jF (za st.heap) x with
    | some new=>match s with
      | .Zal i off len=>match za st.heap i with
        | some (.rows sz' old)=>if sz'=sz∧off=0 then some (.Zal st.next 0 k,[(st.next,.rows sz rows),(i,.dead)],zg op (zd st.env),o,[zkb sz by_ old new rows len k],0) else none
        | _=>none
      | _=>none
    | none=>none
  | _=>q8 op orc st
def zgC (op:AOp) (str:Bool) (zero:AV) (ok:Bool) (orc:List Orc) (st:St) (k m:AV):xu:=match orc with
  | .l x b::o=>match m,k with
    | .map i,.imm k=>match za st.heap i with
      | some (.map es)=>some (match ok with | true=>.tuple [x,.imm (.bool b)] | false=>x,[],zg op (zd st.env),o,[YV str zero k es x b],0)
      | _=>none
    | .imm y,.imm k=>some (match ok with | true=>.tuple [x,.imm (.bool b)] | false=>x,[],zg op (zd st.env),o,[zcd str zero k y x b],0)
    | _,_=>none
  | _=>q8 op orc st
def zif (op:AOp) (str:Bool) (orc:List Orc) (st:St) (v k m:AV):xu:=match orc with
  | .u es'::o=>match m,k with
    | .map i,.imm k=>match za st.heap i with
      | some (.map es)=>some (.undef,[(i,.map es')],zg op (zd st.env),o,[zfg str k (xC v) es es'],0)
      | _=>none
    | _,_=>none
  | _=>q8 op orc st
def zgD (op:AOp) (neg:Bool) (orc:List Orc) (st:St) (x y:AV):xu:=match orc with
  | .v r::o=>match x,y with
    | .imm a,.imm .nomap=>some (.imm r,[],zg op (zd st.env),o,[zh8 neg a r],0)
    | _,_=>none
  | _=>q8 op orc st
def zgE (op:AOp) (sz:Nat) (orc:List Orc) (st:St) (x:AV) (d:AV):xu:=match orc with
  | .b rows' _::o=>match jF (za st.heap) x with
    | some new=>match d with
      | .Zal i 0 len=>match za st.heap i with
        | some (.rows sz' rows)=>if sz'=sz then some (.imm (.int .i64 (len:Int)),[(i,.rows sz rows')],zg op (zd st.env),o,[zgy sz rows new rows' len],0) else none
        | _=>none
      | _=>none
    | none=>none
  | _=>q8 op orc st
def zig (op:AOp) (len sz:Nat) (orc:List Orc) (st:St) (i x:AV):xu:=match orc with
  | .k row::o=>match x with
    | .agg cs=>match i with
      | .imm (.int _ n)=>match cs[row]? with
        | some c=>if sz=1 then some (c,[],zg op (zd st.env),o,[JE n 0 len row],0) else none
        | none=>none
      | _=>none
    | _=>none
  | _=>q8 op orc st
def opX (C:Ctx) (op:AOp) (orc:List Orc) (D:List Nat) (st:St):xu:=match op with
  | .pick c a b=>zgz op orc st (inD D c) (zd st.env a) (zd st.env b) (zd st.env c)
  | .len x=>zh9 op orc st (zd st.env x)
  | .idx sz x i=>zia op sz orc st (zd st.env i) (zd st.env x)
  | .idxa len sz x i=>zgA op len sz orc st (zd st.env i) (zd st.env x)
  | .bin bop x y=>zib op bop orc st (zd st.env x) (zd st.env y)
  | .slc sz x lo hi=>zic op sz orc st lo hi (zd st.env x)
  | .call f args=>zcg C orc st (args.map (zd st.env)) (zd st.env f)
  | .load agg n x=>zgB op agg n orc st (zd st.env x)
  | .store n x v=>zdI op n orc st (zd st.env x) (cellsOf (zd st.env v))
  | .mks sz by_ zero n=>zid op sz by_ zero orc st (zd st.env n)
  | .app sz by_ s x=>zie op sz by_ orc st (zd st.env x) (zd st.env s)
  | .look str zero ok m k=>zgC op str zero ok orc st (zd st.env k) (zd st.env m)
  | .upd str m k v=>zif op str orc st (zd st.env v) (zd st.env k) (zd st.env m)
  | .eqnm neg x y=>zgD op neg orc st (zd st.env x) (zd st.env y)
  | .copy sz d x=>zgE op sz orc st (zd st.env x) (zd st.env d)
  | .ixa len sz x i=>zig op len sz orc st (zd st.env i) (zd st.env x)
  | op=>q8 op orc st
def QR (gd:Option (Nat×Bool)) (orc:List Orc) (D:List Nat) (st:St):Option (Bool×List Orc×List Prop×List Nat×St):=match gd with
  | none=>some (true,orc,[],D,st)
  | some (t,want)=>match (za st.env t).getD .top with
    | .undef=>some (false,orc,[],D,st)
    | .imm (.bool b)=>match D.contains t with
      | true=>match b with
        | true=>some (want,orc,[],D,st)
        | false=>some (!want,orc,[],D,st)
      | false=>match orc with
        | .g true::o=>some (want,o,[b=true],t::D,{st with env:=zj st.env t (.imm (.bool true))})
        | .g false::o=>some (!want,o,[b=false],t::D,{st with env:=zj st.env t (.imm (.bool false))})
        | _=>none
    | _=>none
def zmg (dr:Option (List Nat)) (j:Nat) (W R:List (Nat×Nat)) (ups:List (Nat×Zaf)) (rd:List Nat) (d:Nat):Bool:=match dr with
  | none=>true
  | some ord=>d == 0&&wm ord j W R (z1 ups) rd
def St.afterD (st:St) (dst:Option Nat) (r:AV) (ups:List (Nat×Zaf)) (d:Nat):St:=
  St.put {st with heap:=zC ups st.heap,next:=st.next+d+1} dst r
def JF (D:List Nat):Option Nat→List Nat
  | some d=>D.filter (· != d)
  | none=>D
def Vj (C:Ctx) (dr:Option (List Nat)):List AItem→Nat→List (Nat×Nat)→List (Nat×Nat)→List Orc→List Nat→St→Option (St×List Prop)
  | [],_,_,_,orc,_,st=>match orc with
    | []=>some (st,[])
    | _=>none
  | it::rest,j,W,R,orc,D,st=>match QR it.guard orc D st with
    | none=>none
    | some (false,o,ps,D',st')=>match Vj C dr rest (j+1) W R o (JF D' it.dst) (st'.after it.dst .undef []) with
      | some (s,qs)=>some (s,ps++qs)
      | none=>none
    | some (true,o,ps,D',st')=>match opX C it.op o D' st' with
      | none=>none
      | some (r,ups,rd,o',ps',d)=>match zmg dr j W R ups rd d with
        | false=>none
        | true=>match Vj C dr rest (j+1) (qT j (z1 ups) W) (qT j rd R) o' (JF D' it.dst) (st'.afterD it.dst r ups d) with
          | some (s,qs)=>some (s,ps++(ps'++qs))
          | none=>none
section
variable {C:Ctx}
theorem ZW {α:Type}:∀ {l:List (Nat×α)} {t:Nat} {x:α},za l t=some x→zj l t x=l
  | [],t,x,h=>by cases h
  | (k,v)::r,t,x,h=>by
    simp only [za] at h
    simp only [zj]
    split at h
    · rename_i e;subst e;cases h;simp
    · rename_i e;rw [if_neg e,ZW h]
theorem qd {op:AOp} {orc o':List Orc} {st:St} {r:AV} {ups:List (Nat×Zaf)} {rd:List Nat} {ps:List Prop} {d:Nat} (h:q8 op orc st=some (r,ups,rd,o',ps,d)) :
    evalOp op (zd st.env) (za st.heap) st.next=some (r,ups)∧rd=zg op (zd st.env)∧d=0:=by
  unfold q8 at h
  split at h
  · rename_i e;cases h;exact ⟨e,rfl,rfl⟩
  · cases h
def isCall:AOp→Bool
  | .call _ _=>true
  | _=>false
theorem zch {st:St} {sz id:Nat} {x:Opd} {lo hi:Option Opd} {rows:List (List IV)} {h:Nat→Option Zaf} (hx:zd st.env x=.imm (.slice rows)):evalOp (.slc sz x lo hi) (zd st.env) h id=match zcf st 0 lo,zcf st (rows.length:Int) hi with
    | some a,some b=>if 0≤a∧a≤b∧b≤(rows.length:Int)∧(rows.all fun row=>row.length == sz)=true then some (.imm (.slice ((rows.take b.toNat).drop a.toNat)),[]) else none
    | _,_=>none:=by
  simp only [evalOp,hx]
  cases lo<;>cases hi<;>rfl
theorem KI {op:AOp} {orc o':List Orc} {D:List Nat} {st:St} {r:AV} {ups:List (Nat×Zaf)} {rd:List Nat} {ps:List Prop} {d:Nat} (hc:isCall op=false) (h:opX C op orc D st=some (r,ups,rd,o',ps,d)) (hp:AllP ps) :
    evalOp op (zd st.env) (za st.heap) st.next=some (r,ups)∧rd=zg op (zd st.env)∧d=0:=by
  cases op
  case call=>cases hc
  case pick c a b=>
    simp only [opX] at h
    unfold zgz at h
    simp only [evalOp]
    split at h
    · rename_i x hx
      split at h
      · split at h<;>(cases h;rw [hx];exact ⟨rfl,rfl,rfl⟩)
      · split at h
        · cases h;have:=hp.one;subst this;rw [hx];exact ⟨rfl,rfl,rfl⟩
        · cases h;have:=hp.one;subst this;rw [hx];exact ⟨rfl,rfl,rfl⟩
        · cases h
    · cases h
  case len x=>
    simp only [opX] at h
    unfold zh9 at h
    split at h
    · rename_i rows hx
      split at h
      · cases h
        have:=hp.one
        refine ⟨?_,rfl,rfl⟩
        simp only [evalOp,wq,hx]
        unfold KH at this
        rw [this]
      · cases h
    · rename_i rows hx
      split at h
      · cases h
        have:=hp.one
        refine ⟨?_,rfl,rfl⟩
        simp only [evalOp,wq,hx]
        unfold KH at this
        rw [this]
      · cases h
    · exact qd h
  case idx sz x i=>
    simp only [opX] at h
    unfold zia at h
    split at h
    · rename_i rows hx
      split at h
      · rename_i k n hi
        split at h
        · split at h
          · rename_i hl
            cases h
            have:=hp.one
            refine ⟨?_,rfl,rfl⟩
            simp only [evalOp,hx,hi,if_pos this.1,this.2,if_pos hl]
          · cases h
        · cases h
      · cases h
    · rename_i rows hx
      split at h
      · rename_i k n hi
        split at h
        · split at h
          · rename_i hl
            cases h
            have:=hp.one
            refine ⟨?_,rfl,rfl⟩
            simp only [evalOp,hx,hi,if_pos this.1,this.2,if_pos hl]
          · cases h
        · cases h
      · cases h
    · rename_i j off len hx
      split at h
      · split at h
        · rename_i k n hi
          split at h
          · rename_i sz' rows ho
            split at h
            · rename_i hsz
              cases h
              obtain ⟨h1,h2,h3⟩:=hp.one
              refine ⟨?_,rfl,rfl⟩
              simp only [evalOp,hx,hi,ho]
              rw [if_pos ⟨hsz,h1,h2⟩,h3]
            · cases h
          · cases h
        · cases h
      · exact qd h
    · exact qd h
  case idxa len sz x i=>
    simp only [opX] at h
    unfold zgA at h
    split at h
    · split at h
      · rename_i j hx
        split at h
        · rename_i k n hi
          split at h
          · rename_i sz' rows ho
            split at h
            · rename_i hsz
              cases h
              obtain ⟨h1,h2,h3⟩:=hp.one
              refine ⟨?_,rfl,rfl⟩
              simp only [evalOp,hx,hi,ho]
              rw [if_pos ⟨hsz,h1,h2⟩,←h3,Nat.zero_add]
            · cases h
          · cases h
        · cases h
      · cases h
    · exact qd h
  case bin bop x y=>
    simp only [opX] at h
    unfold zib at h
    split at h
    all_goals first
      | exact qd h
      | skip
    all_goals
      split at h
      · rename_i a b hx hy
        split at h
        · cases h
          have:=hp.one
          unfold Vh at this
          refine ⟨?_,rfl,rfl⟩
          simp only [evalOp,hx,hy,this,Option.map_some]
        · cases h
      · cases h
  case slc sz x lo hi=>
    simp only [opX] at h
    unfold zic at h
    split at h
    · rename_i rows hx
      split at h
      · rename_i a b r' o ha hb
        cases h
        obtain ⟨h1,h2,h3,h4,h5⟩:=hp.one
        refine ⟨?_,rfl,rfl⟩
        rw [zch hx,ha,hb]
        simp only
        rw [if_pos ⟨h1,h2,h3,h4⟩,h5]
      · cases h
    · cases h
  case load agg n x=>
    simp only [opX] at h
    unfold zgB at h
    split at h
    · split at h
      · rename_i i rw_ f hx
        split at h
        · rename_i sz rows ho
          split at h
          · split at h
            · rename_i hle
              cases h
              have h1:=hp.one
              unfold Vi at h1
              refine ⟨?_,rfl,rfl⟩
              simp only [evalOp,hx,ho,h1,if_true]
              rw [if_pos hle]
            · cases h
          · split at h
            · rename_i c hcell
              cases h
              have h1:=hp.one
              unfold Vi at h1
              refine ⟨?_,rfl,rfl⟩
              simp only [evalOp,hx,ho,h1,hcell,Option.map_some,Bool.false_eq_true,if_false]
            · cases h
        · cases h
      · cases h
    · exact qd h
  case store n x v=>
    simp only [opX] at h
    unfold zdI at h
    split at h
    · split at h
      · rename_i i rw_ f hx
        split at h
        · rename_i cs hcs
          split at h
          · rename_i sz rows ho
            split at h
            · rename_i hle
              cases h
              obtain ⟨h1,h2⟩:=hp.one
              refine ⟨?_,rfl,rfl⟩
              simp only [evalOp,hx,hcs,ho,h1]
              rw [if_pos hle,h2]
            · cases h
          · cases h
        · cases h
      · cases h
    · exact qd h
  case mks sz by_ zero n=>
    simp only [opX] at h
    unfold zid at h
    split at h
    · split at h
      · rename_i k rows o n' hx
        cases h
        obtain ⟨h1,h2,h3⟩:=hp.one
        refine ⟨?_,rfl,rfl⟩
        simp only [evalOp,hx]
        rw [if_pos h1,h2,h3]
      · cases h
    · exact qd h
  case app sz by_ s x=>
    simp only [opX] at h
    unfold zie at h
    split at h
    · split at h
      · rename_i new hnew
        split at h
        · rename_i hs
          cases h
          obtain ⟨h1,h2,h3,h4,h5⟩:=hp.one
          refine ⟨?_,rfl,rfl⟩
          simp only [evalOp,hs,Xh,hnew,h1]
          simp only [List.nil_append] at h4
          subst h4
          simp only [Nat.zero_add] at h3 h5
          subst h5
          simp [h3]
        · rename_i i old hs
          split at h
          · rename_i sz' len ho
            split at h
            · rename_i hsz
              cases h
              obtain ⟨h1,h2,h3,h4,h5⟩:=hp.one
              refine ⟨?_,rfl,rfl⟩
              simp only [evalOp,hs,Xh,hnew,h1,ho]
              subst h4 h5
              simp [hsz,h2,h3]
            · cases h
          · cases h
        · cases h
      · cases h
    · split at h
      · rename_i new hnew
        split at h
        · rename_i i off len hs
          split at h
          · rename_i sz' old ho
            split at h
            · rename_i hsz
              cases h
              obtain ⟨h1,h2,h3,h4,h5⟩:=hp.one
              refine ⟨?_,rfl,rfl⟩
              simp only [evalOp,hs,Qv,hnew,h1,ho]
              simp only [Bool.not_true,Bool.false_eq_true,if_false]
              rw [if_pos ⟨hsz.1,hsz.2,h2,h3⟩,h4,h5]
            · cases h
          · cases h
        · cases h
      · cases h
    · exact qd h
  case look str zero ok m k=>
    simp only [opX] at h
    unfold zgC at h
    split at h
    · split at h
      · rename_i i kk hm hk
        split at h
        · rename_i es ho
          cases h
          obtain ⟨h1,h2⟩:=hp.one
          refine ⟨?_,rfl,rfl⟩
          simp only [evalOp,jq,hm,hk,ho,h1,if_true]
          rcases h2 with ⟨h3,h4⟩ | ⟨h3,h4,h5⟩
          · rw [h3,h4];cases ok<;>rfl
          · rw [h3,h4,h5];cases ok<;>rfl
        · cases h
      · rename_i y kk hm hk
        cases h
        obtain ⟨es,h0,h1,h2⟩:=hp.one
        refine ⟨?_,rfl,rfl⟩
        have h0':jq (za st.heap) (.imm y)=some es:=by
          revert h0
          unfold jq
          cases y<;>exact fun h=>h
        simp only [evalOp,hm,h0',hk,h1,if_true]
        rcases h2 with ⟨h3,h4⟩ | ⟨h3,h4,h5⟩
        · rw [h3,h4];cases ok<;>rfl
        · rw [h3,h4,h5];cases ok<;>rfl
      · cases h
    · exact qd h
  case upd str m k v=>
    simp only [opX] at h
    unfold zif at h
    split at h
    · split at h
      · rename_i i kk hm hk
        split at h
        · rename_i es ho
          cases h
          obtain ⟨h1,h2⟩:=hp.one
          refine ⟨?_,rfl,rfl⟩
          simp only [evalOp,hm,hk,ho,h1,if_true,h2]
        · cases h
      · cases h
    · exact qd h
  case eqnm neg x y=>
    simp only [opX] at h
    unfold zgD at h
    split at h
    · split at h
      · rename_i a hx hy
        cases h
        obtain ⟨b,h0,h1⟩:=hp.one
        refine ⟨?_,rfl,rfl⟩
        have h0':wK (za st.heap) (.imm a)=some b:=by
          revert h0
          unfold wK
          cases a<;>exact fun h=>h
        simp only [evalOp,hy,hx,h0',h1]
      · cases h
    · exact qd h
  case copy sz d x=>
    simp only [opX] at h
    unfold zgE at h
    split at h
    · split at h
      · rename_i new hnew
        split at h
        · rename_i i len hd
          split at h
          · rename_i sz' rows ho
            split at h
            · rename_i hsz
              cases h
              obtain ⟨h1,h2,h3,h4⟩:=hp.one
              refine ⟨?_,rfl,rfl⟩
              simp only [evalOp,YQ,hd,ho,hnew]
              rw [if_pos ⟨hsz,h1,h2,h3⟩,h4]
            · cases h
          · cases h
        · cases h
      · cases h
    · exact qd h
  case ixa len sz x i=>
    simp only [opX] at h
    unfold zig at h
    split at h
    · split at h
      · rename_i cs hx
        split at h
        · rename_i k n hi
          split at h
          · rename_i c hc
            split at h
            · rename_i hsz
              cases h
              obtain ⟨h1,h2,h3⟩:=hp.one
              refine ⟨?_,rfl,rfl⟩
              simp only [evalOp,hx,hi]
              rw [Nat.zero_add] at h3
              rw [if_pos ⟨hsz,h1,h2⟩,h3,hc]
              rfl
            · cases h
          · cases h
        · cases h
      · cases h
    · exact qd h
  all_goals exact qd h
theorem zdJ {C:CtxY} {op:AOp} {orc o':List Orc} {D:List Nat} {st:St} {r:AV} {ups:List (Nat×Zaf)} {rd:List Nat} {ps:List Prop} {d:Nat} {dst:Option Nat} {K:St→Prop} (h:opX C op orc D st=some (r,ups,rd,o',ps,d)) (hp:AllP ps) (hK:K (st.afterD dst r ups d)) :
    evOp C dst K st op:=by
  cases hc:isCall op
  · obtain ⟨e,_,rfl⟩:=KI hc h hp
    cases op<;>first | (cases hc;done) | (simp only [evOp];rw [e];exact hK)
  · cases op<;>first | (cases hc;done) | skip
    rename_i f args
    simp only [opX] at h
    unfold zcg at h
    split at h
    · rename_i f' first caps hf
      simp only [evOp,hf]
      split at h
      · split at h
        · rename_i ivs hiv
          split at h
          · rename_i hm;cases h;exact ACall.pure (d:=5) hp.one hm hiv hK
          · cases h
        · cases h
      · split at h
        · rename_i objs ho
          split at h
          · rename_i hm
            cases h
            cases hp with
            | cons h1 h2=>exact ACall.snap (d:=5) h1 (ZU (ZV ho) h2.one) hm hK
          · cases h
        · cases h
      · split at h
        · rename_i objs ho
          split at h
          · rename_i hm
            cases h
            exact ACall.det hp.one hm ho hK
          · cases h
        · cases h
      · cases h
    · cases h
theorem vW {gd:Option (Nat×Bool)} {orc o:List Orc} {D D':List Nat} {st st':St} {b:Bool} {ps:List Prop} (h:QR gd orc D st=some (b,o,ps,D',st')) (hp:AllP ps):st'=st∧zQ st.env gd=some b:=by
  unfold QR at h
  split at h
  · cases h;exact ⟨rfl,rfl⟩
  · rename_i t want
    split at h
    · rename_i e;cases h;exact ⟨rfl,by simp only [zQ,e]⟩
    · rename_i x e
      have hget:za st.env t=some (.imm (.bool x)):=by
        cases h1:za st.env t with
        | none=>rw [h1] at e;cases e
        | some y=>rw [h1] at e;simp only [Option.getD_some] at e;rw [e]
      split at h
      · split at h
        · cases h;exact ⟨rfl,by simp only [zQ,e];cases b<;>rfl⟩
        · cases h;exact ⟨rfl,by simp only [zQ,e];cases want<;>rfl⟩
      · split at h
        · cases h;have:=hp.one;subst this;exact ⟨by rw [ZW hget],by simp only [zQ,e];cases b<;>rfl⟩
        · cases h;have:=hp.one;subst this;exact ⟨by rw [ZW hget],by simp only [zQ,e];cases want<;>rfl⟩
        · cases h
    · cases h
theorem Vk {C:CtxY} {it:AItem} {st:St} {b:Bool} {K:St→Prop} (hg:zQ st.env it.guard=some b) (h1:b=true→evOp C it.dst K st it.op) (h2:b=false→K (st.after it.dst .undef [])):QO C it K st:=by
  unfold QO
  cases hgd:it.guard with
  | none=>rw [hgd] at hg;simp only [zQ,Option.some.injEq] at hg;exact h1 hg.symm
  | some p=>
    obtain ⟨t,want⟩:=p
    rw [hgd] at hg
    simp only [zQ] at hg
    simp only [QN]
    split at hg
    · rename_i x e
      rw [e]
      simp only [Option.some.injEq] at hg
      simp only
      rw [hg]
      cases b
      · exact h2 rfl
      · exact h1 rfl
    · rename_i e
      rw [e]
      simp only [Option.some.injEq] at hg
      exact h2 hg.symm
    · cases hg
theorem Vl {C:CtxY}:∀ {items:List AItem} {j:Nat} {W R:List (Nat×Nat)} {orc:List Orc} {D:List Nat} {st st':St} {ps:List Prop} {K:St→Prop},Vj C none items j W R orc D st=some (st',ps)→AllP ps→K st'→evl C items K st
  | [],j,W,R,orc,D,st,st',ps,K,h,hp,hK=>by
    simp only [Vj] at h
    split at h
    · cases h;exact hK
    · cases h
  | it::rest,j,W,R,orc,D,st,st',ps,K,h,hp,hK=>by
    simp only [Vj] at h
    split at h
    · cases h
    · rename_i o qs D' s hg
      split at h
      · rename_i s2 rs hr
        cases h
        obtain ⟨p1,p2⟩:=hp.app
        obtain ⟨rfl,hgd⟩:=vW hg p1
        exact Vk hgd (fun h=>by cases h) (fun _=>Vl hr p2 hK)
      · cases h
    · rename_i o qs D' s hg
      split at h
      · cases h
      · rename_i r ups rd o' ps' d hop
        split at h
        · cases h
        · split at h
          · rename_i s2 rs hr
            cases h
            obtain ⟨p1,p2⟩:=hp.app
            obtain ⟨p3,p4⟩:=p2.app
            obtain ⟨rfl,hgd⟩:=vW hg p1
            exact Vk hgd (fun _=>zdJ hop p3 (Vl hr p4 hK)) (fun h=>by cases h)
          · cases h
theorem zfh (ord:List Nat) (j:Nat) (W R:List (Nat×Nat)):wm ord j W R [] []=true:=by
  simp [wm]
def zih (C:Ctx) (dr:Option (List Nat)) (items:List AItem) (ks:List Nat) (orc:List Orc) (st:St):Option (St×List Prop):=match Vj C dr items 0 [] [] orc [] st with
  | some (s,ps)=>some (s.keep (some ks),ps)
  | none=>none
theorem kg {C:CtxY} {nt:Fr} {o:List Nat} {items:List AItem} {ks:List Nat} {K:Exit→St→Prop} {st st':St} (orc:List Orc) {ps:List Prop} (hp:AllP ps) (hK:K .normal st') (h:zih C none items ks orc st=some (st',ps)):awp C nt (.region false o items (some ks)) K st:=by
  unfold zih at h
  split at h
  · rename_i s qs hr
    cases h
    exact JA (Vl hr hp hK)
  · cases h
end
theorem zfi {α:Type} (f:α→List IV) (l:List α):KH (List.map f l) (l.length:Int):=by simp [KH]
theorem zfj {α:Type} (f:α→List IV) {l:List α} {n:Int} {e:α} (h:ze l n=some e):zh5 (List.map f l) n (f e):=by
  obtain ⟨h1,h2,_⟩:=zdF h
  exact ⟨h1,by simp [h2]⟩
theorem zfk {α:Type} (f:α→List IV) (sz:Nat) (hf:∀ x,(f x).length=sz) {l e:List α} {a b:Int} (h:Xq l a b=some e):zh6 (List.map f l) sz a b (List.map f e):=by
  obtain ⟨h1,h2,h3,h4⟩:=zdG h
  exact ⟨h1,h2,by simpa using h3,by simp [hf],by rw [←h4];simp [List.map_take,List.map_drop]⟩
theorem zfl {k:IntKind} {a b e:Int} (h:ZT k a b=some e):Vh .rem (.int k a) (.int k b) (.int k e):=by
  obtain ⟨h1,h2⟩:=zdH h
  simp [Vh,h1,h2]
section
variable {α β:Type}
def zk (len:Nat) (n:Int):Option Nat:=if 0≤n∧n < (len:Int) then some n.toNat else none
theorem zs {len k:Nat} {n:Int} (h:zk len n=some k):JE n 0 len k:=by
  unfold zk at h;split at h
  · rename_i hh;cases h;exact ⟨hh.1,hh.2,by omega⟩
  · cases h
theorem zT (f:α→List IV) {l:List α} {k:Nat} {e:α} (h:l[k]?=some e):Vi (zb f l) k (zz (f e)):=by
  unfold Vi zb;rw [List.getElem?_map,h];rfl
theorem zZ (f:α→List IV) {l:List α} {k:Nat} {e:α} (e':α) (h:l[k]?=some e):zh7 (zb f l) k (zz (f e)) (zz (f e')) (zb f (l.set k e')):=by
  refine ⟨zT f h,?_⟩
  simp only [zb,List.map_set]
theorem JG {l:List α} {k:Nat} {e:α} (e':α) (h:l[k]?=some e):(l.set k e')[k]?=some e':=by
  obtain ⟨hk,_⟩:=List.getElem?_eq_some_iff.1 h
  simp [hk]
def mkN (by_:Nat) (n:Int):Option Nat:=if 0≤n∧n < 2 ^ 31∧n*by_≤140737488355328 then some n.toNat else none
theorem xG (f:α→List IV) (z:α) {by_ k:Nat} {n:Int} (h:mkN by_ n=some k):zfe n by_ (zz (f z)) k (zb f (List.replicate k z)):=by
  unfold mkN at h;split at h
  · rename_i hh;cases h;exact ⟨hh,rfl,by simp [zb]⟩
  · cases h
theorem zdK (row:List AV) {by_ k:Nat} {n:Int} (h:mkN by_ n=some k):zfe n by_ row k (List.replicate k row):=by
  unfold mkN at h;split at h
  · rename_i hh;cases h;exact ⟨hh,rfl,rfl⟩
  · cases h
def xy (k:Nat) (d l:List α):Option (List α):=if k=d.length∧l.length=k then some l else none
theorem zci {k:Nat} {d l e:List α} (h:xy k d l=some e):k=d.length∧l.length=k∧e=l:=by
  unfold xy at h;split at h
  · rename_i hh;cases h;exact ⟨hh.1,hh.2,rfl⟩
  · cases h
theorem QS (f:α→List IV) (sz:Nat) (hf:∀ x,(f x).length=sz) {k:Nat} {d l e:List α} (h:xy k d l=some e):zgy sz (zb f d) (List.map (List.map AV.imm) (List.map f l)) (zb f e) k:=by
  obtain ⟨h1,h2,rfl⟩:=zci h
  refine ⟨by simpa [zb] using h1,by simpa using h2,by simp [hf],?_⟩
  simp only [zb,List.map_map];congr 1
def zO (by_:Nat) (l m:List α):Option (List α):=if (l.length+m.length)*by_≤140737488355328 then some (l++m) else none
theorem qz (f:α→List IV) (sz by_:Nat) (hf:∀ x,(f x).length=sz) {l m e:List α} (h:zO by_ l m=some e):zff sz by_ (List.map f l) (List.map f m) (List.map f e) l.length e.length:=by
  unfold zO at h;split at h
  · rename_i hh;cases h;exact ⟨by simp [hf],by simp,by simpa using hh,by simp,by simp⟩
  · cases h
def zfm (by_:Nat) (l m:List α):Option (List α):=if (l.length+m.length)*by_≤140737488355328 then some (l++m) else none
end
def IV.i64 (n:Int):IV:=.int .i64 n
theorem js (args:List AV) (objs:List (Nat×Zaf)) (ivs:List IV) (h:mapO (zx (za objs) 5) args=some ivs):zce args objs ivs:=h
def QT (k k':IntKind) (a b:Int):Option Int:=if b < 0 then none else some (a.fdiv (2 ^ (min b.toNat k.bits)))
theorem zfn {k k':IntKind} {a b e:Int} (h:QT k k' a b=some e):Vh .shr (.int k a) (.int k' b) (.int k e):=by
  unfold QT at h
  split at h
  · cases h
  · rename_i hb;cases h;simp [Vh,hb]
def zq {α β:Type} [DecidableEq α] (k:α):List (α×β)→Option β
  | []=>none
  | (k',v)::r=>if k=k' then some v else zq k r
def zP {α β:Type} [DecidableEq α] (k:α) (v:β):List (α×β)→List (α×β)
  | []=>[(k,v)]
  | (k',v')::r=>if k=k' then (k,v)::r else (k',v')::zP k v r
theorem Wc {β:Type} (vf:β→IV) (k:Int) (es:List (Int×β)):xf (.int .i64 k) (zu IV.i64 vf es)=true:=by
  simp [xf,zu,IV.i64,jE]
theorem Qp {β:Type} (vf:β→IV) (k:Int):∀ es:List (Int×β),ql (.int .i64 k) (zu IV.i64 vf es)=(zq k es).map fun v=>.imm (vf v)
  | []=>rfl
  | (k',v)::r=>by
    have ih:=Qp vf k r
    simp only [zu,List.map_cons,ql,IV.i64,jE,if_true,zq] at ih ⊢
    by_cases e:k=k'
    · subst e;simp
    · simp only [beq_eq_false_iff_ne.2 e,if_neg e];exact ih
theorem QU {β:Type} (vf:β→IV) (k:Int) (x:β):∀ es:List (Int×β),qx (.int .i64 k) (.imm (vf x)) (zu IV.i64 vf es)=zu IV.i64 vf (zP k x es)
  | []=>rfl
  | (k',v)::r=>by
    have ih:=QU vf k x r
    simp only [zu,List.map_cons,qx,IV.i64,jE,if_true,zP] at ih ⊢
    by_cases e:k=k'
    · subst e;simp
    · simp only [beq_eq_false_iff_ne.2 e,if_neg e,List.map_cons];rw [ih]
theorem V7 {β:Type} (vf:β→IV) (z:β) (k:Int) (es:List (Int×β)):YV false (.imm (vf z)) (.int .i64 k) (zu IV.i64 vf es) (.imm (vf ((zq k es).getD z))) (zq k es).isSome:=by
  refine ⟨by rw [Wc];rfl,?_⟩
  rw [Qp]
  cases zq k es with
  | none=>exact .inr ⟨rfl,rfl,rfl⟩
  | some v=>exact .inl ⟨rfl,rfl⟩
theorem zfo {β:Type} (vf:β→IV) (k:Int) (x:β) (es:List (Int×β)):zfg false (.int .i64 k) (.imm (vf x)) (zu IV.i64 vf es) (zu IV.i64 vf (zP k x es)):=
  ⟨by rw [Wc];rfl,QU vf k x es⟩
theorem Wd (a b:ByteArray):(a == b)=decide (a=b):=by
  obtain ⟨a⟩:=a
  obtain ⟨b⟩:=b
  rw [Bool.eq_iff_iff,decide_eq_true_iff]
  show (a == b)=true↔_
  simp
theorem We {β:Type} (vf:β→IV) (k:ByteArray) (es:List (ByteArray×β)):xf (.str k) (zu IV.str vf es)=true:=by
  simp [xf,zu,jE]
theorem Qq {β:Type} (vf:β→IV) (k:ByteArray):∀ es:List (ByteArray×β),ql (.str k) (zu IV.str vf es)=(zq k es).map fun v=>.imm (vf v)
  | []=>rfl
  | (k',v)::r=>by
    have ih:=Qq vf k r
    simp only [zu,List.map_cons,ql,jE,zq] at ih ⊢
    by_cases e:k=k'
    · subst e;simp [Wd]
    · simp only [Wd,decide_eq_false e,if_neg e];exact ih
theorem QV {β:Type} (vf:β→IV) (k:ByteArray) (x:β):∀ es:List (ByteArray×β),qx (.str k) (.imm (vf x)) (zu IV.str vf es)=zu IV.str vf (zP k x es)
  | []=>rfl
  | (k',v)::r=>by
    have ih:=QV vf k x r
    simp only [zu,List.map_cons,qx,jE,zP] at ih ⊢
    by_cases e:k=k'
    · subst e;simp [Wd]
    · simp only [Wd,decide_eq_false e,if_neg e,List.map_cons];rw [ih]
theorem wS {β:Type} (vf:β→IV) (z:β) (k:ByteArray) (es:List (ByteArray×β)):YV true (.imm (vf z)) (.str k) (zu IV.str vf es) (.imm (vf ((zq k es).getD z))) (zq k es).isSome:=by
  refine ⟨by rw [We];rfl,?_⟩
  rw [Qq]
  cases zq k es with
  | none=>exact .inr ⟨rfl,rfl,rfl⟩
  | some v=>exact .inl ⟨rfl,rfl⟩
theorem xH {β:Type} (vf:β→IV) (k:ByteArray) (x:β) (es:List (ByteArray×β)):zfg true (.str k) (.imm (vf x)) (zu IV.str vf es) (zu IV.str vf (zP k x es)):=
  ⟨by rw [We];rfl,QV vf k x es⟩
def qC {α β:Type} (kf:α→IV) (vf:β→IV):Option (List (α×β))→IV
  | none=>.nomap
  | some es=>.omap (es.map fun e=>(kf e.1,vf e.2))
theorem zdL {α β:Type} (kf:α→IV) (vf:β→IV) (e:Option (List (α×β))):jq (fun _=>none) (.imm (qC kf vf e))=some (zu kf vf (e.getD [])):=by
  cases e with
  | none=>rfl
  | some es=>simp [qC,jq,zu]
theorem Wf {β:Type} (vf:β→IV) (z:β) (k:Int) (e:Option (List (Int×β))):zcd false (.imm (vf z)) (.int .i64 k) (qC IV.i64 vf e) (.imm (vf ((zq k (e.getD [])).getD z))) (zq k (e.getD [])).isSome:=
  ⟨_,zdL _ _ e,V7 vf z k _⟩
theorem zfp {α β:Type} (neg:Bool) (kf:α→IV) (vf:β→IV) (e:Option (List (α×β))):zh8 neg (qC kf vf e) (.bool (if neg then e.isSome else !e.isSome)):=by
  cases e with
  | none=>exact ⟨true,rfl,by cases neg<;>rfl⟩
  | some es=>exact ⟨false,rfl,by cases neg<;>rfl⟩
theorem Wg {α β:Type} (kf:α→IV) (vf:β→IV) (h:Nat→Option Zaf) (d:Nat):∀ es:List (α×β),mapO (fun e:IV×AV=>(zx h (d+1) e.2).map fun y=>(e.1,y)) (zu kf vf es)=some (es.map fun e=>(kf e.1,vf e.2))
  | []=>rfl
  | (k,v)::r=>by
    have ih:=Wg kf vf h d r
    simp only [zu,List.map_cons,mapO,zx,Option.map_some] at ih ⊢
    rw [ih]
theorem zfq {α β:Type} (kf:α→IV) (vf:β→IV) (h:Nat→Option Zaf) (d id:Nat) (es:List (α×β)) (ho:h id=some (.map (zu kf vf es))):zx h (d+2) (.map id)=some (qC kf vf (some es)):=by
  show (match h id with
    | some (.map es)=>(mapO (fun e:IV×AV=>(zx h (d+1) e.2).map fun y=>(e.1,y)) es).map IV.omap
    | _=>none)=_
  rw [ho]
  simp only [Wg]
  rfl
theorem Wh {α:Type} (f:α→List IV) (h:Nat→Option Zaf) (d:Nat):∀ l:List α,mapO (fun row:List AV=>mapO (zx h (d+1)) row) (zb f l)=some (l.map f)
  | []=>rfl
  | x::l=>by
    have ih:=Wh f h d l
    have h1:mapO (zx h (d+1)) (zz (f x))=some (f x):=by
      generalize f x=r
      induction r with
      | nil=>rfl
      | cons a r ih=>simp only [zz,List.map_cons,mapO,zx] at ih ⊢; rw [ih]
    simp only [zb,List.map_cons,mapO] at ih ⊢
    rw [h1];simp only;rw [ih]
theorem KJ {α:Type} (f:α→List IV) (h:Nat→Option Zaf) (d id sz:Nat) (l:List α) (ho:h id=some (.rows sz (zb f l))):zx h (d+2) (.Zal id 0 l.length)=some (.slice (l.map f)):=by
  show (match h id with
      | some (.rows _ rows)=>if 0+l.length≤rows.length then (mapO (fun row:List AV=>mapO (zx h (d+1)) row) ((rows.drop 0).take l.length)).map IV.slice else none
      | _=>none)=_
  rw [ho]
  simp only [List.drop_zero]
  rw [if_pos (by simp [zb]),List.take_of_length_le (by simp [zb]),Wh f h d l];rfl
end
def zcj (m:Nat) (ov env:List (Nat×AV)):List Nat→Option (List (Nat×AV)×List Prop)
  | []=>some ([],[])
  | k::ks=>match za env k with
    | none=>none
    | some a=>match zcj m ov env ks with
      | none=>none
      | some (l,ps)=>match za ov k with
        | some b=>match zL m b with
          | true=>some ((k,b)::l,(a=b)::ps)
          | false=>none
        | none=>match zL m a with
          | true=>some ((k,a)::l,ps)
          | false=>none
def Vm (m:Nat):Zaf→Bool
  | .rows _ rows=>rows.all fun row=>row.all (zL m)
  | .tip _ _=>true
  | .map es=>es.all fun e=>zL m e.2
  | .dead=>true
  | .lp _ _ _ _=>true
theorem yI {m:Nat} {o:Zaf} (h:Vm m o=true):zM m o:=by
  cases o<;>simp only [Vm,zM] at h ⊢
  · intro row hr x hx;exact List.all_eq_true.1 (List.all_eq_true.1 h row hr) x hx
  · intro e he;exact List.all_eq_true.1 h e he
def YW (m:Nat) (ov heap:List (Nat×Zaf)):List (Nat×Bool)→Option (List (Nat×Zaf)×List Prop)
  | []=>some ([],[])
  | (k,f)::ks=>match za heap k with
    | none=>none
    | some a=>match YW m ov heap ks with
      | none=>none
      | some (l,ps)=>match decide (k < m) with
        | false=>none
        | true=>match za ov k with
          | some b=>match f with
            | true=>match Vm m b with
              | true=>some ((k,b)::l,(a=b)::ps)
              | false=>none
            | false=>some ((k,b)::l,(a=b)::zM m b::ps)
          | none=>match f with
            | true=>match Vm m a with
              | true=>some ((k,a)::l,ps)
              | false=>none
            | false=>some ((k,a)::l,zM m a::ps)
def zgF (ks:List Nat) (hs:List (Nat×Bool)) (n:Nat) (ov:List (Nat×AV)) (ovh:List (Nat×Zaf)) (st:St):Option (St×List Prop):=match decide (n≤st.next) with
  | false=>none
  | true=>match zcj n ov st.env ks,YW n ovh st.heap hs with
    | some (e,ps),some (h,qs)=>some (⟨e,h,n⟩,ps++qs)
    | _,_=>none
theorem QW {m:Nat} {ov env:List (Nat×AV)}:∀ {ks:List Nat} {l:List (Nat×AV)} {ps:List Prop},zcj m ov env ks=some (l,ps)→AllP ps→∀ p∈l,za env p.1=some p.2∧zL m p.2=true
  | [],l,ps,h,hp=>by cases h;intro p hp;cases hp
  | k::ks,l,ps,h,hp=>by
    simp only [zcj] at h
    split at h
    · cases h
    · rename_i a ha
      split at h
      · cases h
      · rename_i l' ps' hr
        split at h
        · split at h
          · rename_i b hb hbl
            cases h
            cases hp with
            | cons h1 h2=>
              intro p hp
              rcases List.mem_cons.1 hp with rfl | hp
              · exact ⟨by rw [ha,h1],hbl⟩
              · exact QW hr h2 p hp
          · cases h
        · split at h
          · rename_i hbl
            cases h
            intro p hpm
            rcases List.mem_cons.1 hpm with rfl | hpm
            · exact ⟨ha,hbl⟩
            · exact QW hr hp p hpm
          · cases h
theorem wT {m:Nat} {ov heap:List (Nat×Zaf)}:∀ {ks:List (Nat×Bool)} {l:List (Nat×Zaf)} {ps:List Prop},YW m ov heap ks=some (l,ps)→AllP ps→∀ p∈l,za heap p.1=some p.2∧p.1 < m∧zM m p.2
  | [],l,ps,h,hp=>by cases h;intro p hp;cases hp
  | (k,f)::ks,l,ps,h,hp=>by
    simp only [YW] at h
    split at h
    · cases h
    · rename_i a ha
      split at h
      · cases h
      · rename_i l' ps' hr
        split at h
        · cases h
        · rename_i hk
          have hk:=of_decide_eq_true hk
          split at h
          · rename_i b hb
            split at h
            · split at h
              · rename_i hbl
                cases h
                cases hp with
                | cons h1 h2=>
                  intro p hp
                  rcases List.mem_cons.1 hp with rfl | hp
                  · exact ⟨by rw [ha,h1],hk,yI hbl⟩
                  · exact wT hr h2 p hp
              · cases h
            · cases h
              cases hp with
              | cons h1 h2=>
                cases h2 with
                | cons h3 h4=>
                  intro p hp
                  rcases List.mem_cons.1 hp with rfl | hp
                  · exact ⟨by rw [ha,h1],hk,h3⟩
                  · exact wT hr h4 p hp
          · split at h
            · split at h
              · rename_i hbl
                cases h
                intro p hpm
                rcases List.mem_cons.1 hpm with rfl | hpm
                · exact ⟨ha,hk,yI hbl⟩
                · exact wT hr hp p hpm
              · cases h
            · cases h
              cases hp with
              | cons h3 h4=>
                intro p hpm
                rcases List.mem_cons.1 hpm with rfl | hpm
                · exact ⟨ha,hk,h3⟩
                · exact wT hr h4 p hpm
theorem KL {st st':St} (ks:List Nat) (hs:List (Nat×Bool)) (n:Nat) (ov:List (Nat×AV)) (ovh:List (Nat×Zaf)) {ps:List Prop} (hp:AllP ps) (h:zgF ks hs n ov ovh st=some (st',ps)):Weak st st':=by
  unfold zgF at h
  split at h
  · cases h
  · rename_i hn
    split at h
    · rename_i e qs hh rs he hhp
      cases h
      obtain ⟨p1,p2⟩:=hp.app
      exact Jz (of_decide_eq_true hn) (QW he p1) (wT hhp p2)
    · cases h
theorem zg5 {rs:List ARes} {d:Nat} {r:IV} {st:St} (h:(qO rs st).bind (zx (za st.heap) d)=some r):yH rs (QQ d r) .ret st:=by
  unfold yH ZQ
  simp only
  cases h1:qO rs st with
  | none=>rw [h1] at h;cases h
  | some x=>rw [h1] at h;exact h
theorem ACall.weak {C:Ctx} {f:Nat} {args:List AV} {heap:List (Nat×Zaf)} {next:Nat} {K K':AV→List (Nat×Zaf)→Nat→Prop} (hc:ACall C f args heap next K)
    (hk:∀ r h n,K r h n→∃ r' h' n',K' r' h' n'∧next≤n'∧Weak ⟨[(0,r)],h,n⟩ ⟨[(0,r')],h',n'⟩):ACall C f args heap next K':=by
  refine ⟨hc.1,fun g w vs R hv=>(hc.2 g w vs R hv).mono ?_⟩
  rintro e w' ⟨v,r,heap',next',g',rfl,hK,E,R',hx⟩
  obtain ⟨r',h',n',hK',hn,hw⟩:=hk r heap' next' hK
  let a:Act:={tmps := #[v],defers:=[]}
  have hrel:Rel C ⟨1,0⟩ g' ⟨[(0,r)],heap',next'⟩ a w':=⟨⟨rfl,Marks.nil _ (Nat.zero_le _),fun t x hx'=>by
    simp only [za] at hx'
    split at hx'
    · rename_i e;subst e;cases hx';exact hx
    · cases hx'⟩,R'⟩
  obtain ⟨g2,R2,hE⟩:=hw C ⟨1,0⟩ g' a w' hrel
  exact ⟨v,r',h',n',g2,rfl,hK',hE g ⟨[],heap,next⟩ w hn E,R2.heap,R2.env.slot 0 r' rfl⟩
def zkc (rs:List ARes) (r:AV) (heap:List (Nat×Zaf)) (n:Nat):Exit→St→Prop
  | .ret,st | .normal,st=>∃ x,qO rs st=some x∧Weak ⟨[(0,x)],st.heap,st.next⟩ ⟨[(0,r)],heap,n⟩
  | _,_=>False
def JH (m:Nat) (heap:List (Nat×Zaf)):Bool:=(List.range m).all fun i=>(za heap i).isSome
theorem zbu {m:Nat} {heap:List (Nat×Zaf)} (h:JH m heap=true):∀ i,i < m→(za heap i).isSome=true:=fun i hi=>by
  simp only [JH,List.all_eq_true,List.mem_range] at h
  exact h i hi
def zy:Nat:=1000000
def wy (b:Nat) (L:List Int):List AV:=[bif Nat.blt b 2000000 then .Zas b (L.map zc) else .imm (.slice (L.map zc))]
def qi:Nat→List (List Int)→List (List AV)
  | _,[]=>[]
  | b,L::r=>wy b L::qi (b+1) r
theorem yn:∀ (Ls:List (List Int)) (b k:Nat),(qi b Ls)[k]?=(Ls[k]?).map (wy (b+k))
  | [],b,k=>by simp [qi]
  | L::r,b,0=>by simp [qi]
  | L::r,b,k+1=>by
    simp only [qi,List.getElem?_cons_succ]
    rw [yn r (b+1) k,show b+1+k=b+(k+1) by omega]
theorem xO {b:Nat} (h:b < 2000000) (L:List Int):wy b L=[.Zas b (L.map zc)]:=by
  have:Nat.blt b 2000000=true:=by simpa [Nat.blt_eq] using h
  simp [wy,this]
theorem vX {b:Nat} (h:¬ b < 2000000) (L:List Int):wy b L=[.imm (.slice (L.map zc))]:=by
  have:Nat.blt b 2000000=false:=by
    cases e:Nat.blt b 2000000 with
    | false=>rfl
    | true=>exact absurd (by simpa [Nat.blt_eq] using e) h
  simp [wy,this]
theorem YJ {nx b:Nat} (h2:2000000≤nx) (L:List Int):∀ x∈wy b L,zL nx x=true:=by
  intro x hx
  by_cases hb:b < 2000000
  · rw [xO hb] at hx
    have:x=.Zas b (L.map zc):=by simpa using hx
    subst this
    simp only [zL,xa,zF,decide_eq_true_eq];omega
  · rw [vX hb] at hx
    have:x=.imm (.slice (L.map zc)):=by simpa using hx
    subst this;rfl
theorem za2 {nx:Nat} (h2:2000000≤nx) (Ls:List (List Int)) (b:Nat):zM nx (.rows 1 (qi b Ls)):=by
  intro row hrow x hx
  obtain ⟨k,hk⟩:=List.mem_iff_getElem?.1 hrow
  rw [yn] at hk
  obtain ⟨L,_,rfl⟩:=Option.map_eq_some_iff.1 hk
  exact YJ h2 L x hx
inductive Belows (m:Nat):List (Nat×Zaf)→Prop where
  | nil:Belows m []
  | exp {k:Nat} {o:Zaf} {r:List (Nat×Zaf)} (hk:decide (k < m)=true) (ho:Vm m o=true) (t:Belows m r):Belows m ((k,o)::r)
  | rows {k sz:Nat} {α:Type} {f:α→List IV} {l:List α} {r:List (Nat×Zaf)} (hk:decide (k < m)=true) (t:Belows m r):Belows m ((k,.rows sz (zb f l))::r)
  | ents {k:Nat} {α β:Type} {kf:α→IV} {vf:β→IV} {es:List (α×β)} {r:List (Nat×Zaf)} (hk:decide (k < m)=true) (t:Belows m r):Belows m ((k,.map (zu kf vf es))::r)
  | nest {k:Nat} {Ls:List (List Int)} {r:List (Nat×Zaf)} (hk:decide (k < m)=true) (hn:Nat.ble 2000000 m=true) (t:Belows m r):Belows m ((k,.rows 1 (qi zy Ls))::r)
theorem Belows.all {m:Nat} {l:List (Nat×Zaf)} (h:Belows m l):∀ p∈l,p.1 < m∧zM m p.2:=by
  induction h with
  | nil=>intro p hp;cases hp
  | exp hk ho t ih=>
    intro p hp
    rcases List.mem_cons.1 hp with rfl | hp
    · exact ⟨of_decide_eq_true hk,yI ho⟩
    · exact ih p hp
  | rows hk t ih=>
    intro p hp
    rcases List.mem_cons.1 hp with rfl | hp
    · exact ⟨of_decide_eq_true hk,vV _ _ _ _⟩
    · exact ih p hp
  | ents hk t ih=>
    intro p hp
    rcases List.mem_cons.1 hp with rfl | hp
    · exact ⟨of_decide_eq_true hk,za1 _ _ _ _⟩
    · exact ih p hp
  | nest hk hn t ih=>
    intro p hp
    rcases List.mem_cons.1 hp with rfl | hp
    · exact ⟨of_decide_eq_true hk,za2 (Nat.le_of_ble_eq_true hn) _ _⟩
    · exact ih p hp
theorem DOk.start {C:Ctx} {f:Nat} {F:AFun} (hF:qt C f=some F.erase) {args:List AV} {heap heap1:List (Nat×Zaf)} {m d:Nat} {r:AV} (hn:args.length≤F.nt) (b0:Belows m heap) (b1:Belows (m+d) heap1) (hka:args.all (zL m)=true) (hkr:zL (m+d) r=true) (k0:JH m heap=true) (k1:JH m heap1=true)
    (h:∀ B,awp C.plain ⟨F.nt,B⟩ F.body (zkc F.results r heap1 (m+d)) ⟨qY 0 args,heap,m⟩):DOk C f args heap m r heap1 d where
  det:=by
    have h1:ACall C f args heap m fun x hp n=>Weak ⟨[(0,x)],hp,n⟩ ⟨[(0,r)],heap1,m+d⟩:=ACall.enter hF hn (fun B=>qS (fun e st hk=>by
      cases e with
      | ret=>obtain ⟨x,h1,h2⟩:=hk;exact ⟨.inl rfl,x,h1,h2⟩
      | normal=>obtain ⟨x,h1,h2⟩:=hk;exact ⟨.inr rfl,x,h1,h2⟩
      | _=>exact hk.elim) (h B))
    exact h1.weak fun x hp n hw=>⟨r,heap1,m+d,⟨rfl,rfl,rfl⟩,by omega,hw⟩
  k0:=b0.all
  ka:=fun x hx=>List.all_eq_true.1 hka x hx
  k1:=b1.all
  kr:=hkr
  all:=zbu k1
  all0:=zbu k0
section
section
variable {C:Ctx} {g g':Gh} {h h':Nat→Option Zaf} {N N':Nat→Prop} {w w':World} {id:Nat}
theorem V8 {st:St} {t:Nat} {x y:AV} {ups:List (Nat×Zaf)} (ht:za st.env t=some x)
    (hg:∀ (C:Ctx) (g:Gh) (w:World) (v:Value),RH C g (za st.heap) (· < st.next) w→RV C g (za st.heap) (· < st.next) w x v→Good C g (za st.heap) (· < st.next) w st.next y ups v w) :
    Weak st ⟨zj st.env t y,zC ups st.heap,st.next+1⟩:=by
  intro C nt g a w R
  obtain ⟨g',E,H,hv⟩:=hg C g w _ R.heap (R.env.slot t x ht)
  rw [jA] at E H hv
  rw [←jr] at E H hv
  refine ⟨g',⟨⟨R.env.size,R.env.defers.evo E,fun t' z hz => ?_⟩,H⟩,fun g0 st0 w0 hm E0=>E0.trans E⟩
  rw [zo] at hz
  split at hz
  · rename_i e;subst e;cases hz;exact hv
  · exact (R.env.slot t' z hz).mono E
theorem V9 {st:St} {t:Nat} (sz:Nat) (ht:za st.env t=some .nil):Weak st ⟨zj st.env t (.Zal st.next 0 0),zC [(st.next,.rows sz [])] st.heap,st.next+1⟩:=
  V8 ht fun C g w v R hv=>by rw [xg hv];exact VV R (Nat.lt_irrefl _) sz
theorem Ya {st:St} {t i len sz:Nat} {rows:List (List AV)} (ht:za st.env t=some (.Zal i 0 len)) (ho:za st.heap i=some (.rows sz rows)) (hl:len=rows.length) :
    Weak st ⟨zj st.env t (.Zal st.next 0 len),zC [(st.next,.rows sz rows),(i,.dead)] st.heap,st.next+1⟩:=
  V8 ht fun C g w v R hv=>Kj R (Nat.lt_irrefl _) hv ho hl
theorem zdM (st:St) (n:Nat) (hn:st.next≤n):Weak st ⟨st.env,st.heap,n⟩:=by
  intro C nt g a w R
  have E:Evo g (za st.heap) (· < st.next) w g (za st.heap) (· < n) w:={Evo.refl g (za st.heap) (· < st.next) w with
    next:=fun i hi=>Nat.lt_of_lt_of_le hi hn}
  refine ⟨g,⟨⟨R.env.size,R.env.defers,fun t x hx=>(R.env.slot t x hx).mono E⟩,⟨R.heap.inj,fun i b hb=>⟨(R.heap.lt i b hb).1,Nat.lt_of_lt_of_le (R.heap.lt i b hb).2 hn⟩,fun i o ho=>Nat.lt_of_lt_of_le (R.heap.key i o ho) hn,fun i b o hb ho=>(R.heap.obj i b o hb ho).keep E rfl rfl,R.heap.tip0,R.heap.zlt,R.heap.fix.evo E⟩⟩,fun g0 st0 w0 hm E0=>E0.trans E⟩
theorem Weak.trans {s1 s2 s3:St} (h1:Weak s1 s2) (h2:Weak s2 s3) (hn:s3.next≤s2.next∨True):∀ (C:Ctx) (nt:Fr) (g:Gh) (a:Act) (w:World),Rel C nt g s1 a w→∃ g',Rel C nt g' s3 a w∧∀ g0 st0 w0,st0.next≤s2.next→st0.next≤s3.next→EvoS g0 st0 w0 g s1 w→EvoS g0 st0 w0 g' s3 w:=by
  intro C nt g a w R
  obtain ⟨g1,R1,e1⟩:=h1 C nt g a w R
  obtain ⟨g2,R2,e2⟩:=h2 C nt g1 a w R1
  exact ⟨g2,R2,fun g0 st0 w0 a1 a2 E=>e2 g0 st0 w0 a2 (e1 g0 st0 w0 a1 E)⟩
theorem ACall.nilsplit {f:Nat} {rest:List AV} {heap:List (Nat×Zaf)} {next:Nat} {K:AV→List (Nat×Zaf)→Nat→Prop} (h1:ACall C f (.nil::rest) heap next K) (h2:ACall C f (.nnil::rest) heap next K):ACall C f (.imm (.slice [])::rest) heap next K:=by
  refine ⟨h1.1,fun g w vs R hv => ?_⟩
  obtain ⟨hl,hv⟩:=hv
  cases vs with
  | nil=>simp at hl
  | cons v vs=>
    have hv0:=hv 0 _ v rfl rfl
    have key:∀ x,RV C g (za heap) (· < next) w x v→RVs C g (za heap) (· < next) w (x::rest) (v::vs):=fun x hx=>⟨by simpa using hl,fun j y u hj hu=>by
      cases j with
      | zero=>simp at hj hu;subst hj hu;exact hx
      | succ j=>exact hv (j+1) y u hj hu⟩
    cases hv0 with
    | imm _ _ hr=>
      cases hr with
      | nil=>exact h1.2 g w _ R (key _ .nil)
      | empty a cap=>exact h2.2 g w _ R (key _ (.nnil a cap))
      | slice _ b off cap sz cv hcap=>exact h2.2 g w _ R (key _ (.nnil ⟨b,off,none⟩ cap))
def xq (sz by_:Nat) (zero:List AV):AFun:=⟨8,[.tmp 2],(
 .seq (.region false [] [⟨some 2,.mov (.c (.nil)),none⟩] (some [0])) (
  .seq (.seq (.region false [] [⟨some 3,.mov (.t 0),none⟩,⟨some 4,.eqnil false (.t 3) (.c (.nil)),none⟩] (some [0,4])) (
    .cond (.t 4) (.seq (.region false [] [⟨some 2,.mov (.c (.nil)),none⟩] (some [2])) (.ret)) (.skip))) (
   .seq (.region false [] [⟨some 5,.bslice sz zero 0 [],none⟩,⟨some 6,.mov (.t 0),none⟩,⟨some 7,.app sz by_ (.t 5) (.t 6),none⟩,⟨some 2,.mov (.t 7),none⟩] (some [2])) (.ret))))⟩
def jm {α:Type} (by_:Nat) (l:List α):Option (List α):=if l.length*by_≤140737488355328 then some l else none
theorem clone_ok {α:Type} {n sz by_:Nat} {zero:List AV} (hF:qt C n=some (xq sz by_ zero).erase) (f:α→List IV) (hf:∀ x,(f x).length=sz) {l e:List α} (h:jm by_ l=some e) :
    DOk C n [.imm (.slice (List.map f l))] [] 0 (.Zal 7 0 e.length) [(7,.rows sz (zb f e))] 8:=by
  unfold jm at h
  split at h
  case isFalse=>cases h
  rename_i hb
  cases h
  refine ⟨?_,by simp,by simp [zL,xa,zF],?_,by simp [zL,xa,zF],by simp,by simp⟩
  · unfold zfb
    cases l with
    | nil=>
      refine ACall.nilsplit ?_ ?_
      · have h1:ACall C n [.nil] [] 0 fun r hp nx=>r=.nil∧hp=[]∧nx=4:=by
          refine ACall.run hF (by simp [xq]) (fun B => ?_)
          simp [xq]
        refine (h1.weak (K':=fun r hp nx=>r=.nil∧hp=[]∧nx=7) ?_).weak ?_
        · rintro r hp nx ⟨rfl,rfl,rfl⟩
          exact ⟨_,_,_,⟨rfl,rfl,rfl⟩,by omega,zdM _ 7 (by simp)⟩
        · rintro r hp nx ⟨rfl,rfl,rfl⟩
          exact ⟨_,_,_,⟨rfl,rfl,rfl⟩,by omega,V9 (t:=0) sz rfl⟩
      · have h1:ACall C n [.nnil] [] 0 fun r hp nx=>r=.Zal 5 0 0∧hp=[(3,.dead),(5,.rows sz [])]∧nx=7:=by
          refine ACall.run hF (by simp [xq]) (fun B => ?_)
          simp [xq,Qv]
        refine (h1.weak (K':=fun r hp nx=>r=.Zal 7 0 0∧hp=[(3,.dead),(5,.dead),(7,.rows sz [])]∧nx=8) ?_).weak ?_
        · rintro r hp nx ⟨rfl,rfl,rfl⟩
          exact ⟨_,_,_,⟨rfl,rfl,rfl⟩,by omega,Ya (t:=0) (i:=5) (len:=0) (sz:=sz) (rows:=[]) rfl rfl rfl⟩
        · rintro r hp nx ⟨rfl,rfl,rfl⟩
          exact ⟨_,_,_,⟨rfl,rfl,rfl⟩,by omega,KL [0] [(7,true)] 8 [] [] AllP.nil (by kernel_rfl)⟩
    | cons x xs=>
      have h1:ACall C n [.imm (.slice (List.map f (x::xs)))] [] 0 fun r hp nx=>r=.Zal 5 0 (x::xs).length∧hp=[(3,.dead),(5,.rows sz (zb f (x::xs)))]∧nx=7:=by
        refine ACall.run hF (by simp [xq]) (fun B => ?_)
        simp [xq,Qv,hf]
        have hb':(xs.length+1)*by_≤140737488355328:=by simpa using hb
        rw [if_pos hb']
        simp [zb,zz,Function.comp_def]
      refine (h1.weak (K':=fun r hp nx=>r=.Zal 7 0 (x::xs).length∧hp=[(3,.dead),(5,.dead),(7,.rows sz (zb f (x::xs)))]∧nx=8) ?_).weak ?_
      · rintro r hp nx ⟨rfl,rfl,rfl⟩
        exact ⟨_,_,_,⟨rfl,rfl,rfl⟩,by omega,Ya (t:=0) (i:=5) (len:=(x::xs).length) (sz:=sz) (rows:=zb f (x::xs)) rfl rfl (by simp [zb])⟩
      · rintro r hp nx ⟨rfl,rfl,rfl⟩
        exact ⟨_,_,_,⟨rfl,rfl,rfl⟩,by omega,KL [0] [(7,false)] 8 [] [] (AllP.cons (vV 8 sz f (x::xs)) .nil) (by kernel_rfl)⟩
  · intro p hp
    simp only [List.mem_singleton] at hp
    subst hp
    exact ⟨by omega,vV _ _ _ _⟩
end
end
section
def Zm (id:Nat) (rows:List (List IV)):AV→AV
  | .Zal i o n=>if i=id then .imm (.slice rows) else .Zal i o n
  | x=>x
def Zn (id off len:Nat):AV→List Prop
  | .Zal i o n=>if i=id then [o=off∧n=len] else []
  | _=>[]
def YX (id off len:Nat):AV→List Prop
  | .agg cs=>cs.flatMap (Zn id off len)
  | .tuple cs=>cs.flatMap (Zn id off len)
  | x=>Zn id off len x
def KM (id off len:Nat):Zaf→List Prop
  | .rows _ rs=>rs.flatMap fun r=>r.flatMap (YX id off len)
  | _=>[]
def KN (id off len:Nat):List (Nat×AV)→List Prop
  | []=>[]
  | (_,x)::r=>YX id off len x++KN id off len r
def KO (id off len:Nat) (ks:List Nat):List (Nat×Zaf)→List Prop
  | []=>[]
  | (k,o)::r=>(if ks.contains k then KM id off len o else [])++KO id off len ks r
theorem AllP.mem {ps:List Prop} (h:AllP ps) {p:Prop} (hp:p∈ps):p:=by
  induction h with
  | nil=>cases hp
  | cons h t ih=>
    rcases List.mem_cons.1 hp with e | e
    · rw [e];exact h
    · exact ih e
theorem AllP.sub {ps qs:List Prop} (h:AllP ps) (hs:∀ p∈qs,p∈ps):AllP qs:=by
  induction qs with
  | nil=>exact .nil
  | cons q qs ih=>exact .cons (h.mem (hs q (by simp))) (ih fun p hp=>hs p (by simp [hp]))
theorem KP {id off len t:Nat} {x:AV}:∀ {env:List (Nat×AV)},za env t=some x→∀ p∈YX id off len x,p∈KN id off len env
  | [],h,p,hp=>by cases h
  | (k,y)::r,h,p,hp=>by
    simp only [za] at h
    simp only [KN,List.mem_append]
    split at h
    · cases h;exact .inl hp
    · exact .inr (KP h p hp)
theorem KQ {id off len i:Nat} {ks:List Nat} {o:Zaf} (hi:ks.contains i=true):∀ {heap:List (Nat×Zaf)},za heap i=some o→∀ p∈KM id off len o,p∈KO id off len ks heap
  | [],h,p,hp=>by cases h
  | (k,y)::r,h,p,hp=>by
    simp only [za] at h
    simp only [KO,List.mem_append]
    split at h
    · rename_i e;subst e;cases h;rw [if_pos hi];exact .inl hp
    · exact .inr (KQ hi h p hp)
def JI (id:Nat) (rows:List (List IV)):AV→AV
  | .agg cs=>.agg (cs.map (Zm id rows))
  | .tuple cs=>.tuple (cs.map (Zm id rows))
  | x=>Zm id rows x
def xi (id:Nat) (rows:List (List IV)):Zaf→Zaf
  | .rows sz rs=>.rows sz (rs.map fun r=>r.map (JI id rows))
  | o=>o
def ZX (id:Nat) (rows:List (List IV)) (ks:List Nat):List (Nat×Zaf)→List (Nat×Zaf)
  | []=>[]
  | (k,o)::r=>(k,if k=id then .dead else if ks.contains k then xi id rows o else o)::ZX id rows ks r
def KR (id:Nat) (rows:List (List IV)):List (Nat×AV)→List (Nat×AV)
  | []=>[]
  | (k,x)::r=>(k,JI id rows x)::KR id rows r
theorem Wi (id:Nat) (rows:List (List IV)):∀ (env:List (Nat×AV)) (t:Nat),za (KR id rows env) t=(za env t).map (JI id rows)
  | [],t=>rfl
  | (k,x)::r,t=>by
    simp only [KR,za]
    split
    · rfl
    · exact Wi id rows r t
theorem Wj (id:Nat) (rows:List (List IV)) (ks:List Nat):∀ (heap:List (Nat×Zaf)) (i:Nat),za (ZX id rows ks heap) i=(za heap i).map fun o=>if i=id then .dead else if ks.contains i then xi id rows o else o
  | [],i=>rfl
  | (k,o)::r,i=>by
    simp only [ZX,za]
    split
    · rename_i e;subst e;rfl
    · exact Wj id rows ks r i
theorem za3 {st:St} (id sz off len:Nat) (all rows:List (List IV)) (ks:List Nat) (rowsV:List (List AV)) (ho:za st.heap id=some (.rows sz rowsV)) (hrows:all.map (fun r=>r.map AV.imm)=rowsV) (hD:(all.drop off).take len=rows) (hocc:AllP (KN id off len st.env++KO id off len ks st.heap)):Weak st ⟨KR id rows st.env,ZX id rows ks st.heap,st.next⟩:=by
  subst hrows
  intro C nt g a w R
  obtain ⟨RE,R⟩:=R
  let g':Gh:=⟨fun i=>if i=id then none else g.ρ i,fun b=>if g.ρ id=some b then max (g.Z b) (all.length*sz) else g.Z b⟩
  have hr:∀ i b,g'.ρ i=some b→i≠id∧g.ρ i=some b:=fun i b h=>by
    simp only [g'] at h
    split at h
    · cases h
    · exact ⟨‹_›,h⟩
  have hr':∀ i,i≠id→g'.ρ i=g.ρ i:=fun i h=>by simp only [g',if_neg h]
  have hz:∀ b,g.Z b≤g'.Z b:=fun b=>by simp only [g'];split<;>omega
  have hz':∀ b,¬ g.ρ id=some b→g'.Z b=g.Z b:=fun b h=>by simp only [g',if_neg h]
  have hh:∀ i o,za (ZX id rows ks st.heap) i=some o→(i=id∧o=.dead)∨(i≠id∧∃ o0,za st.heap i=some o0∧(o=o0∨(ks.contains i=true∧o=xi id rows o0))):=fun i o h=>by
    rw [Wj,Option.map_eq_some_iff] at h
    obtain ⟨o0,h1,h2⟩:=h
    split at h2
    · rename_i e;exact .inl ⟨e,h2.symm⟩
    · rename_i e
      split at h2
      · rename_i hk;exact .inr ⟨e,o0,h1,.inr ⟨hk,h2.symm⟩⟩
      · exact .inr ⟨e,o0,h1,.inl h2.symm⟩
  have E:Evo g (za st.heap) (· < st.next) w g' (za (ZX id rows ks st.heap)) (· < st.next) w:={
    os:=rfl
    tape:=rfl
    output:=rfl
    size:=Nat.le_refl _
    old:=fun b _ hno=>⟨rfl,hz' b fun e=>hno ⟨id,e⟩⟩
    own:=fun b ⟨i,hi⟩=>.inl ⟨i,(hr i b hi).2⟩
    zmono:=hz
    cell:=Frz.refl _ _
    shape:=fun b c e h=>⟨c,h,rfl⟩
    next:=fun _ h=>h
    rho:=fun i b hb o ho' hnd _=>by
      rcases hh i o ho' with ⟨_,h2⟩ | ⟨h1,_⟩
      · exact absurd h2 hnd
      · exact .inl (by rw [hr' i h1];exact hb)
    rho0:=fun i hb _ o ho' hnd=>by
      rcases hh i o ho' with ⟨_,h2⟩ | ⟨h1,_⟩
      · exact absurd h2 hnd
      · exact .inl (by rw [hr' i h1];exact hb)
    rows:=fun i _ s r ho'=>by
      rcases hh i _ ho' with ⟨_,h2⟩ | ⟨_,o0,h2,h3 | ⟨_,h3⟩⟩
      · cases h2
      · subst h3;exact ⟨r,h2,rfl⟩
      · cases o0<;>simp only [xi] at h3<;>cases h3
        exact ⟨_,h2,by simp⟩
    tips:=fun i _ s l ho'=>by
      rcases hh i _ ho' with ⟨_,h2⟩ | ⟨_,o0,h2,h3 | ⟨_,h3⟩⟩
      · cases h2
      · subst h3;exact ⟨l,h2,Nat.le_refl _⟩
      · cases o0<;>simp only [xi] at h3<;>cases h3
        exact ⟨_,h2,Nat.le_refl _⟩
    maps:=fun i _ es ho'=>by
      rcases hh i _ ho' with ⟨_,h2⟩ | ⟨_,o0,h2,h3 | ⟨_,h3⟩⟩
      · cases h2
      · subst h3;exact ⟨es,h2⟩
      · cases o0<;>simp only [xi] at h3<;>cases h3
        exact ⟨_,h2⟩
    lps:=fun i _ ll RR s pe ho'=>by
      rcases hh i _ ho' with ⟨_,h2⟩ | ⟨_,o0,h2,h3 | ⟨_,h3⟩⟩
      · cases h2
      · subst h3;exact ⟨s,pe,h2⟩
      · cases o0<;>simp only [xi] at h3<;>cases h3
        exact ⟨_,_,h2⟩}
  have leaf:∀ {x:AV} {v:Value},AllP (Zn id off len x)→RV C g (za st.heap) (· < st.next) w x v→RV C g' (za (ZX id rows ks st.heap)) (· < st.next) w (Zm id rows x) v:=by
    intro x v hoc hv
    cases x with
    | Zal i off' len'=>
      simp only [Zm]
      split
      · rename_i e
        subst e
        simp only [Zn,if_true] at hoc
        obtain ⟨rfl,rfl⟩:=hoc.one
        rw [←hD]
        cases hv with
        | Zal _ _ _ _ hid h1 hp=>
          obtain ⟨h2,h3⟩:=hp sz _ ho
          simp only [List.length_map] at h2
          have hlen:((all.drop off').take len').length=len':=by rw [List.length_take,List.length_drop];omega
          rcases h3 with ⟨a1,a2,a3⟩ | ⟨b,cap,c,e,b1,b2,b3,b4,b5⟩
          · simp only [List.map_eq_nil_iff] at a2
            subst a2 a3
            have:len'=0:=by simp at h2;omega
            subst this
            simp only [List.drop_nil,List.take_nil]
            exact .imm _ _ .nil
          · subst b2
            have hobj:=R.obj _ b _ b1 ho
            simp only [RObj] at hobj
            obtain ⟨z0,c2,e2,c3,c4,c5⟩:=hobj
            rw [b4] at c3
            cases c3
            have hget:∀ (k:Nat) (row:List IV) (j:Nat) (y:IV),((all.drop off').take len')[k]?=some row→row[j]?=some y→all[off'+k]?=some row∧off'+k < all.length∧row.length=sz∧j < sz:=fun k row j y hk hj=>by
              have hk':k < len':=by rw [←hlen];exact (List.getElem?_eq_some_iff.1 hk).1
              rw [List.getElem?_take,if_pos hk',List.getElem?_drop] at hk
              have hl:=c4 (off'+k) (row.map AV.imm) (by rw [List.getElem?_map,hk];rfl)
              simp only [List.length_map] at hl
              exact ⟨hk,(List.getElem?_eq_some_iff.1 hk).1,hl,by rw [←hl];exact (List.getElem?_eq_some_iff.1 hj).1⟩
            refine .imm _ _ ?_
            have:=RI.slice (Z:=g'.Z) (w:=w) ((all.drop off').take len') b (off'*sz) cap sz (fun k j=>(c[(off'+k)*sz+j]?).getD default) (by rw [hlen];exact b3)
              (fun k row hk=>by
                have hk':k < len':=by rw [←hlen];exact (List.getElem?_eq_some_iff.1 hk).1
                rw [List.getElem?_take,if_pos hk',List.getElem?_drop] at hk
                have hl:=c4 (off'+k) (row.map AV.imm) (by rw [List.getElem?_map,hk];rfl)
                simpa using hl)
              (fun k row j y hk hj=>by
                obtain ⟨q1,q2,q3,q4⟩:=hget k row j y hk hj
                have e1:off'*sz+k*sz+j=(off'+k)*sz+j:=by rw [Nat.add_mul]
                rw [e1]
                have e2:(off'+k+1)*sz≤all.length*sz:=Nat.mul_le_mul_right _ q2
                rw [Nat.add_mul (off'+k) 1] at e2
                simp only [g',if_pos b1]
                omega)
              (fun k row j y hk hj=>by
                obtain ⟨q1,q2,q3,q4⟩:=hget k row j y hk hj
                obtain ⟨cv,u1,u2,u3⟩:=c5 (off'+k) (row.map AV.imm) j (.imm y) (by rw [List.getElem?_map,q1];rfl) (by rw [List.getElem?_map,hj];rfl)
                have e1:off'*sz+k*sz+j=(off'+k)*sz+j:=by rw [Nat.add_mul]
                rw [e1,qv b4,u1]
                exact ⟨rfl,u2⟩)
              (fun k row j y hk hj=>by
                obtain ⟨q1,q2,q3,q4⟩:=hget k row j y hk hj
                obtain ⟨cv,u1,u2,u3⟩:=c5 (off'+k) (row.map AV.imm) j (.imm y) (by rw [List.getElem?_map,q1];rfl) (by rw [List.getElem?_map,hj];rfl)
                rw [u1]
                cases u3 with
                | imm _ _ hri=>exact hri.mono hz (Frz.refl _ _))
            rw [hlen] at this
            exact this
      · exact hv.mono E
    | _=>exact hv.mono E
  have tr:∀ {x:AV} {v:Value},AllP (YX id off len x)→RV C g (za st.heap) (· < st.next) w x v→RV C g' (za (ZX id rows ks st.heap)) (· < st.next) w (JI id rows x) v:=by
    intro x v hoc hv
    cases x with
    | agg cs=>
      simp only [JI]
      cases hv with
      | agg _ vs hl h1 hr2=>
        refine .agg _ vs (by simpa using hl) h1 fun i y u e1 e2 => ?_
        rw [List.getElem?_map,Option.map_eq_some_iff] at e1
        obtain ⟨z,e1,rfl⟩:=e1
        exact leaf (hoc.sub fun p hp=>List.mem_flatMap.2 ⟨z,List.mem_of_getElem? e1,hp⟩) (hr2 i z u e1 e2)
    | tuple cs=>
      simp only [JI]
      cases hv with
      | tuple _ vs hl hr2=>
        refine .tuple _ vs (by simpa using hl) fun i y u e1 e2 => ?_
        rw [List.getElem?_map,Option.map_eq_some_iff] at e1
        obtain ⟨z,e1,rfl⟩:=e1
        exact leaf (hoc.sub fun p hp=>List.mem_flatMap.2 ⟨z,List.mem_of_getElem? e1,hp⟩) (hr2 i z u e1 e2)
    | Zal i o n=>exact leaf (x:=.Zal i o n) hoc hv
    | _=>exact hv.mono E
  refine ⟨g',⟨⟨RE.size,RE.defers.evo E,fun t x hx => ?_⟩,⟨fun i j b h1 h2=>R.inj i j b (hr i b h1).2 (hr j b h2).2,fun i b h1=>R.lt i b (hr i b h1).2,fun i o h1 => ?_,fun i b o h1 h2 => ?_,fun i s l h1 h2 => ?_,fun b hb => ?_,R.fix.evo E⟩⟩,fun g0 st0 w0 hm E0=>E0.trans E⟩
  · simp only at hx
    rw [Wi,Option.map_eq_some_iff] at hx
    obtain ⟨y,h1,rfl⟩:=hx
    exact tr (hocc.sub fun p hp=>List.mem_append.2 (.inl (KP h1 p hp))) (RE.slot t y h1)
  · rcases hh i o h1 with ⟨h2,_⟩ | ⟨_,o0,h2,_⟩
    · subst h2;exact R.key _ _ ho
    · exact R.key i o0 h2
  · obtain ⟨hne,h1⟩:=hr i b h1
    have hzb:g'.Z b=g.Z b:=hz' b fun e=>hne (R.inj _ _ b h1 e)
    rcases hh i o h2 with ⟨h3,_⟩ | ⟨_,o0,h3,h4 | ⟨hks,h4⟩⟩
    · exact absurd h3 hne
    · subst h4
      have hro:=R.obj i b _ h1 h3
      cases o with
      | rows s r=>
        simp only [RObj] at hro ⊢
        obtain ⟨a1,c,e,a2,a3,a4⟩:=hro
        refine ⟨by rw [hzb];exact a1,c,e,a2,a3,fun k row j x u1 u2 => ?_⟩
        obtain ⟨cv,b1,b2,b3⟩:=a4 k row j x u1 u2
        exact ⟨cv,b1,b2,b3.mono E⟩
      | tip s l=>simp only [RObj] at hro ⊢; rw [hzb];exact hro
      | map es=>
        simp only [RObj] at hro ⊢
        obtain ⟨a1,ces,clock,a2,a3,a4⟩:=hro
        refine ⟨by rw [hzb];exact a1,ces,clock,a2,a3,fun k kk x u1 => ?_⟩
        obtain ⟨e,b1,b2,b3⟩:=a4 k kk x u1
        exact ⟨e,b1,b2,b3.mono E⟩
      | dead=>trivial
      | lp l R s pe=>simp only [RObj] at hro ⊢; rw [hzb];exact hro
    · subst h4
      have hro:=R.obj i b _ h1 h3
      cases o0 with
      | rows s r=>
        simp only [xi,RObj] at hro ⊢
        obtain ⟨a1,c,e,a2,a3,a4⟩:=hro
        refine ⟨by rw [hzb];exact a1,c,e,a2,fun k row u1 => ?_,fun k row j x u1 u2 => ?_⟩
        · rw [List.getElem?_map,Option.map_eq_some_iff] at u1
          obtain ⟨z,u1,rfl⟩:=u1
          simpa using a3 k z u1
        · rw [List.getElem?_map,Option.map_eq_some_iff] at u1
          obtain ⟨z,u1,rfl⟩:=u1
          rw [List.getElem?_map,Option.map_eq_some_iff] at u2
          obtain ⟨y,u2,rfl⟩:=u2
          obtain ⟨cv,b1,b2,b3⟩:=a4 k z j y u1 u2
          exact ⟨cv,b1,b2,tr (hocc.sub fun p hp=>List.mem_append.2 (.inr (KQ hks h3 p (by simp only [KM];exact List.mem_flatMap.2 ⟨z,List.mem_of_getElem? u1,List.mem_flatMap.2 ⟨y,List.mem_of_getElem? u2,hp⟩⟩)))) b3⟩
      | tip s l=>simp only [xi,RObj] at hro ⊢; rw [hzb];exact hro
      | map es=>
        simp only [xi,RObj] at hro ⊢
        obtain ⟨a1,ces,clock,a2,a3,a4⟩:=hro
        refine ⟨by rw [hzb];exact a1,ces,clock,a2,a3,fun k kk x u1 => ?_⟩
        obtain ⟨e,b1,b2,b3⟩:=a4 k kk x u1
        exact ⟨e,b1,b2,b3.mono E⟩
      | dead=>trivial
      | lp l R s pe=>simp only [xi,RObj] at hro ⊢; rw [hzb];exact hro
  · rcases hh i _ h1 with ⟨_,h3⟩ | ⟨hne,o0,h3,h4 | ⟨_,h4⟩⟩
    · cases h3
    · subst h4;exact R.tip0 i s l h3 (by rw [←hr' i hne];exact h2)
    · cases o0<;>simp only [xi] at h4<;>cases h4
      exact R.tip0 i s l h3 (by rw [←hr' i hne];exact h2)
  · simp only [g'] at hb
    split at hb
    · rename_i e;exact (R.lt id b e).1
    · exact R.zlt b hb
theorem zg6 {α:Type} (f:α→List IV) (l:List α):((List.map f l).drop 0).take l.length=List.map f l:=by
  rw [List.drop_zero,List.take_of_length_le (by simp)]
theorem QX {α:Type} (f:α→List IV) (l:List α):(List.map f l).map (fun r=>r.map AV.imm)=zb f l:=by
  simp only [zb,zz,List.map_map];rfl
inductive AVle:AV→AV→Prop where
  | refl (x:AV):AVle x x
  | nil:AVle .nil (.imm (.slice []))
  | tip (id:Nat) (rows:List (List IV)):AVle (.Zas id rows) (.imm (.slice rows))
inductive RowLe:List AV→List AV→Prop where
  | nil:RowLe [] []
  | cons {x y:AV} {r s:List AV} (h:AVle x y) (t:RowLe r s):RowLe (x::r) (y::s)
theorem RowLe.len {r s:List AV} (h:RowLe r s):r.length=s.length:=by
  induction h with
  | nil=>rfl
  | cons h t ih=>simp [ih]
theorem RowLe.get {r s:List AV} (h:RowLe r s):∀ (j:Nat) (y:AV),s[j]?=some y→∃ x,r[j]?=some x∧AVle x y:=by
  induction h with
  | nil=>intro j y hj;simp at hj
  | cons h t ih=>
    intro j y hj
    cases j with
    | zero=>simp at hj;subst hj;exact ⟨_,by simp,h⟩
    | succ j=>simpa using ih j y (by simpa using hj)
inductive RowsLe:List (List AV)→List (List AV)→Prop where
  | nil:RowsLe [] []
  | cons {r s:List AV} {l m:List (List AV)} (h:RowLe r s) (t:RowsLe l m):RowsLe (r::l) (s::m)
theorem RowsLe.len {l m:List (List AV)} (h:RowsLe l m):l.length=m.length:=by
  induction h with
  | nil=>rfl
  | cons h t ih=>simp [ih]
theorem RowsLe.get {l m:List (List AV)} (h:RowsLe l m):∀ (j:Nat) (s:List AV),m[j]?=some s→∃ r,l[j]?=some r∧RowLe r s:=by
  induction h with
  | nil=>intro j y hj;simp at hj
  | cons h t ih=>
    intro j y hj
    cases j with
    | zero=>simp at hj;subst hj;exact ⟨_,by simp,h⟩
    | succ j=>simpa using ih j y (by simpa using hj)
theorem zfr {st:St} (id sz:Nat) (l m:List (List AV)) (ho:za st.heap id=some (.rows sz l)) (hle:RowsLe l m):Weak st ⟨st.env,zj st.heap id (.rows sz m),st.next⟩:=by
  intro C nt g a w R
  obtain ⟨RE,R⟩:=R
  have hh:∀ i o,za (zj st.heap id (.rows sz m)) i=some o→(i=id∧o=.rows sz m)∨(i≠id∧za st.heap i=some o):=fun i o h=>by
    rw [zo] at h
    split at h
    · rename_i e;exact .inl ⟨e.symm,by cases h;rfl⟩
    · rename_i e;exact .inr ⟨fun e2=>e e2.symm,h⟩
  have E:Evo g (za st.heap) (· < st.next) w g (za (zj st.heap id (.rows sz m))) (· < st.next) w:={Evo.refl g (za st.heap) (· < st.next) w with
    rho:=fun i b hb _ _ _ _=>.inl hb
    rho0:=fun i hb _ _ _ _=>.inl hb
    rows:=fun i _ s r h1=>by
      rcases hh i _ h1 with ⟨e1,e2⟩ | ⟨_,e2⟩
      · subst e1;cases e2;exact ⟨_,ho,hle.len⟩
      · exact ⟨r,e2,rfl⟩
    tips:=fun i _ s l h1=>by
      rcases hh i _ h1 with ⟨_,e2⟩ | ⟨_,e2⟩
      · cases e2
      · exact ⟨l,e2,Nat.le_refl _⟩
    maps:=fun i _ es h1=>by
      rcases hh i _ h1 with ⟨_,e2⟩ | ⟨_,e2⟩
      · cases e2
      · exact ⟨es,e2⟩
    lps:=fun i _ ll RR s pe h1=>by
      rcases hh i _ h1 with ⟨_,e2⟩ | ⟨_,e2⟩
      · cases e2
      · exact ⟨s,pe,e2⟩}
  refine ⟨g,⟨⟨RE.size,RE.defers,fun t x hx=>(RE.slot t x hx).mono E⟩,⟨R.inj,R.lt,fun i o h1 => ?_,fun i b o h1 h2 => ?_,fun i s l h1 h2 => ?_,R.zlt,R.fix.evo E⟩⟩,fun g0 st0 w0 hm E0=>E0.trans E⟩
  · rcases hh i o h1 with ⟨e1,_⟩ | ⟨_,e2⟩
    · subst e1;exact R.key _ _ ho
    · exact R.key i o e2
  · rcases hh i o h2 with ⟨e1,e2⟩ | ⟨_,e2⟩
    · subst e1 e2
      have hro:=R.obj _ b _ h1 ho
      simp only [RObj] at hro ⊢
      obtain ⟨a1,c,e,a2,a3,a4⟩:=hro
      refine ⟨a1,c,e,a2,fun i r hi => ?_,fun i r j x hi hj => ?_⟩
      · obtain ⟨q,q1,q2⟩:=hle.get i r hi
        rw [←q2.len];exact a3 i q q1
      · obtain ⟨q,q1,q2⟩:=hle.get i r hi
        obtain ⟨y,q3,q4⟩:=q2.get j x hj
        obtain ⟨cv,b1,b2,b3⟩:=a4 i q j y q1 q3
        refine ⟨cv,b1,b2,?_⟩
        cases q4 with
        | refl=>exact b3.mono E
        | nil=>rw [xg b3];exact .imm _ _ .nil
        | tip=>cases b3 with | Zas _ _ _ hr _ _=>exact .imm _ _ (hr.mono E.zmono E.cell)
    · exact (R.obj i b o h1 e2).keep E rfl rfl
  · rcases hh i _ h1 with ⟨_,e2⟩ | ⟨_,e2⟩
    · cases e2
    · exact R.tip0 i s l e2 h2
open Classical in
noncomputable def lim {α:Type} (f:Nat→Option α):Option α:=if h:∃ r,∃ k,∀ k',k≤k'→f k'=some r then some h.choose else none
section
variable {h:Nat→Option Zaf} {d:Nat}
theorem jH:mapO (zx h d) []=some []:=rfl
theorem zD {x:AV} {y:IV} {xs:List AV} {ys:List IV} (h1:zx h d x=some y) (h2:mapO (zx h d) xs=some ys):mapO (zx h d) (x::xs)=some (y::ys):=by
  simp only [mapO];rw [h1];simp only;rw [h2]
theorem qM (y:IV):zx h (d+1) (.imm y)=some y:=rfl
theorem ZY {cs:List AV} {ys:List IV} (h1:mapO (zx h d) cs=some ys):zx h (d+1) (.agg cs)=some (.agg ys):=by
  simp only [zx];rw [h1];rfl
theorem zgG {cs:List AV} {ys:List IV} (h1:mapO (zx h d) cs=some ys):zx h (d+1) (.tuple cs)=some (.tuple ys):=by
  simp only [zx];rw [h1];rfl
theorem zkd {α β:Type} (kf:α→IV) (vf:β→IV) (id:Nat) (es:List (α×β)) (ho:h id=some (.map (zu kf vf es))):zx h (d+2) (.map id)=some (qC kf vf (some es)):=zfq kf vf h d id es ho
theorem YY {α:Type} (f:α→List IV) (id sz:Nat) (l:List α) (ho:h id=some (.rows sz (zb f l))):zx h (d+2) (.Zal id 0 l.length)=some (.slice (List.map f l)):=KJ f h d id sz l ho
theorem zfs {rs:List ARes} {d:Nat} {r:IV} {st:St} (x:AV) (hx:qO rs st=some x) (h:zx (za st.heap) d x=some r):yH rs (QQ d r) .ret st:=zg5 (by rw [hx];exact h)
end
inductive LeV:AV→AV→Prop where
  | refl (x:AV):LeV x x
  | nil:LeV .nil (.imm (.slice []))
  | tip (id:Nat) (rows:List (List IV)):LeV (.Zas id rows) (.imm (.slice rows))
  | agg {r s:List AV} (h:RowLe r s):LeV (.agg r) (.agg s)
  | tuple {r s:List AV} (h:RowLe r s):LeV (.tuple r) (.tuple s)
theorem AVle.rv {C:Ctx} {g:Gh} {h:Nat→Option Zaf} {N:Nat→Prop} {w:World} {x y:AV} {v:Value} (hl:AVle x y) (hv:RV C g h N w x v):RV C g h N w y v:=by
  cases hl with
  | refl=>exact hv
  | nil=>rw [xg hv];exact .imm _ _ .nil
  | tip=>cases hv with | Zas _ _ _ hr _ _=>exact .imm _ _ hr
theorem LeV.rv {C:Ctx} {g:Gh} {h:Nat→Option Zaf} {N:Nat→Prop} {w:World} {x y:AV} {v:Value} (hl:LeV x y) (hv:RV C g h N w x v):RV C g h N w y v:=by
  cases hl with
  | refl=>exact hv
  | nil=>rw [xg hv];exact .imm _ _ .nil
  | tip=>cases hv with | Zas _ _ _ hr _ _=>exact .imm _ _ hr
  | agg hr=>
    cases hv with
    | agg _ vs h1 h2 h3=>
      refine .agg _ vs (by rw [←hr.len];exact h1) h2 fun i c u e1 e2 => ?_
      obtain ⟨q,q1,q2⟩:=hr.get i c e1
      exact q2.rv (h3 i q u q1 e2)
  | tuple hr=>
    cases hv with
    | tuple _ vs h1 h3=>
      refine .tuple _ vs (by rw [←hr.len];exact h1) fun i c u e1 e2 => ?_
      obtain ⟨q,q1,q2⟩:=hr.get i c e1
      exact q2.rv (h3 i q u q1 e2)
inductive LeVs:List AV→List AV→Prop where
  | nil:LeVs [] []
  | cons {x y:AV} {r s:List AV} (h:LeV x y) (t:LeVs r s):LeVs (x::r) (y::s)
theorem LeVs.len {l m:List AV} (h:LeVs l m):l.length=m.length:=by
  induction h with
  | nil=>rfl
  | cons h t ih=>simp [ih]
theorem LeVs.get {l m:List AV} (h:LeVs l m):∀ (j:Nat) (s:AV),m[j]?=some s→∃ r,l[j]?=some r∧LeV r s:=by
  induction h with
  | nil=>intro j y hj;simp at hj
  | cons h t ih=>
    intro j y hj
    cases j with
    | zero=>simp at hj;subst hj;exact ⟨_,by simp,h⟩
    | succ j=>simpa using ih j y (by simpa using hj)
inductive LeV2:AV→AV→Prop where
  | one {x y:AV} (h:LeV x y):LeV2 x y
  | tup {r s:List AV} (h:LeVs r s):LeV2 (.tuple r) (.tuple s)
theorem LeV2.rv {C:Ctx} {g:Gh} {h:Nat→Option Zaf} {N:Nat→Prop} {w:World} {x y:AV} {v:Value} (hl:LeV2 x y) (hv:RV C g h N w x v):RV C g h N w y v:=by
  cases hl with
  | one h=>exact h.rv hv
  | tup hr=>
    cases hv with
    | tuple _ vs h1 h3=>
      refine .tuple _ vs (by rw [←hr.len];exact h1) fun i c u e1 e2 => ?_
      obtain ⟨q,q1,q2⟩:=hr.get i c e1
      exact q2.rv (h3 i q u q1 e2)
theorem zg7 {x y:AV} {heap:List (Nat×Zaf)} {n:Nat} (hl:LeV2 x y):Weak ⟨[(0,x)],heap,n⟩ ⟨[(0,y)],heap,n⟩:=by
  intro C nt g a w R
  refine ⟨g,⟨⟨R.env.size,R.env.defers,fun t z hz => ?_⟩,R.heap⟩,fun _ _ _ _ E=>E⟩
  simp only [za] at hz
  split at hz
  · rename_i e;subst e;cases hz;exact hl.rv (R.env.slot 0 x rfl)
  · cases hz
theorem Weak.andThen {s1 s2 s3:St} (h1:Weak s1 s2) (h2:Weak s2 s3) (hn:s3.next≤s2.next):Weak s1 s3:=by
  intro C nt g a w R
  obtain ⟨g1,R1,e1⟩:=h1 C nt g a w R
  obtain ⟨g2,R2,e2⟩:=h2 C nt g1 a w R1
  exact ⟨g2,R2,fun g0 st0 w0 a1 E=>e2 g0 st0 w0 a1 (e1 g0 st0 w0 (Nat.le_trans a1 hn) E)⟩
theorem xz {h:Nat→Option Zaf} {d:Nat} {α:Type} (f:α→List IV) (id sz n:Nat) (l:List α) (hn:n=l.length) (ho:h id=some (.rows sz (zb f l))):zx h (d+2) (.Zal id 0 n)=some (.slice (List.map f l)):=by
  subst hn;exact KJ f h d id sz l ho
theorem zdN {st:St} (id sz sz':Nat) (rows:List (List AV)) (r j:Nat) (row:List AV) (ho:za st.heap id=some (.rows sz rows)) (hr:rows[r]?=some row) (hj:row[j]?=some .nil) :
    Weak st ⟨st.env,zj (zJ st.heap st.next (.tip sz' 0)) id (.rows sz (rows.set r (row.set j (.Zas st.next [])))),st.next+1⟩:=by
  intro C nt g a w R
  have hidn:id < st.next:=R.heap.key _ _ ho
  obtain ⟨g',E,H,hv⟩:=QE (id:=st.next) R.heap (Nat.lt_irrefl _) sz'
  rw [jA] at E H hv
  have e1:hup [(st.next,Zaf.tip sz' 0)] (za st.heap)=za (zJ st.heap st.next (.tip sz' 0)):=by
    funext i;simp only [hup,z6]
  rw [e1] at E H hv
  have ho':za (zJ st.heap st.next (.tip sz' 0)) id=some (.rows sz rows):=by rw [z6,if_neg (by omega)];exact ho
  have hh:∀ i o,za (zj (zJ st.heap st.next (.tip sz' 0)) id (.rows sz (rows.set r (row.set j (.Zas st.next []))))) i=some o→(i=id∧o=.rows sz (rows.set r (row.set j (.Zas st.next []))))∨(i≠id∧za (zJ st.heap st.next (.tip sz' 0)) i=some o):=fun i o h=>by
    rw [zo] at h
    split at h
    · rename_i e;exact .inl ⟨e.symm,by cases h;rfl⟩
    · rename_i e;exact .inr ⟨fun e2=>e e2.symm,h⟩
  have E2:Evo g' (za (zJ st.heap st.next (.tip sz' 0))) (· < st.next+1) w g' (za (zj (zJ st.heap st.next (.tip sz' 0)) id (.rows sz (rows.set r (row.set j (.Zas st.next [])))))) (· < st.next+1) w:={Evo.refl g' (za (zJ st.heap st.next (.tip sz' 0))) (· < st.next+1) w with
    rho:=fun i b hb _ _ _ _=>.inl hb
    rho0:=fun i hb _ _ _ _=>.inl hb
    rows:=fun i _ s q h1=>by
      rcases hh i _ h1 with ⟨e1,e2⟩ | ⟨_,e2⟩
      · subst e1;cases e2;exact ⟨_,ho',by simp⟩
      · exact ⟨q,e2,rfl⟩
    tips:=fun i _ s l h1=>by
      rcases hh i _ h1 with ⟨_,e2⟩ | ⟨_,e2⟩
      · cases e2
      · exact ⟨l,e2,Nat.le_refl _⟩
    maps:=fun i _ es h1=>by
      rcases hh i _ h1 with ⟨_,e2⟩ | ⟨_,e2⟩
      · cases e2
      · exact ⟨es,e2⟩
    lps:=fun i _ ll RR s pe h1=>by
      rcases hh i _ h1 with ⟨_,e2⟩ | ⟨_,e2⟩
      · cases e2
      · exact ⟨s,pe,e2⟩}
  refine ⟨g',⟨⟨R.env.size,(R.env.defers.evo E).evo E2,fun t x hx=>((R.env.slot t x hx).mono E).mono E2⟩,⟨H.inj,H.lt,fun i o h1 => ?_,fun i b o h1 h2 => ?_,fun i s l h1 h2 => ?_,H.zlt,H.fix.evo E2⟩⟩,fun g0 st0 w0 hm E0=>Evo.trans (Evo.trans E0 E) E2⟩
  · rcases hh i o h1 with ⟨e1,_⟩ | ⟨_,e2⟩
    · subst e1;exact H.key _ _ ho'
    · exact H.key i o e2
  · rcases hh i o h2 with ⟨e1,e2⟩ | ⟨_,e2⟩
    · subst e1 e2
      have hro:=H.obj _ b _ h1 ho'
      simp only [RObj] at hro ⊢
      obtain ⟨a1,c,e,a2,a3,a4⟩:=hro
      have hrl:r < rows.length:=(List.getElem?_eq_some_iff.1 hr).1
      have hjl:j < row.length:=(List.getElem?_eq_some_iff.1 hj).1
      refine ⟨a1,c,e,a2,fun i q hi => ?_,fun i q k x hi hk => ?_⟩
      · rw [List.getElem?_set] at hi
        split at hi
        · rename_i e3;subst e3;cases hi;simpa using a3 _ row hr
        · exact a3 i q hi
      · rw [List.getElem?_set] at hi
        split at hi
        · rename_i e3
          subst e3
          cases hi
          rw [List.getElem?_set] at hk
          split at hk
          · rename_i e4
            subst e4
            cases hk
            obtain ⟨cv,b1,b2,b3⟩:=a4 _ row _ .nil hr hj
            refine ⟨cv,b1,b2,?_⟩
            rw [xg b3]
            exact hv.mono E2
          · obtain ⟨cv,b1,b2,b3⟩:=a4 _ row k x hr hk
            exact ⟨cv,b1,b2,b3.mono E2⟩
        · obtain ⟨cv,b1,b2,b3⟩:=a4 i q k x hi hk
          exact ⟨cv,b1,b2,b3.mono E2⟩
    · exact (H.obj i b o h1 e2).keep E2 rfl rfl
  · rcases hh i _ h1 with ⟨_,e2⟩ | ⟨_,e2⟩
    · cases e2
    · exact H.tip0 i s l e2 h2
end
def zke {σ ρ γ:Type} (Ok:σ→γ→Prop) (W:σ→γ→St) (K:Exit→St→Prop) (out:σ ⊕ ρ) (o:σ ⊕ ρ):Exit→St→Prop
  | .normal,st=>∃ s' c',o=.inl s'∧Ok s' c'∧Weak st (W s' c')
  | e,st=>∃ y,o=.inr y∧(out=.inr y→K e st)
def Vn (qs:List Nat) (Ls:List (List Int)):List (List AV):=List.zipWith (fun q L=>[AV.Zas q (L.map zc)]) qs Ls
structure NestOk (heap:List (Nat×Zaf)) (N P:Nat) (qs:List Nat) (Ls:List (List Int)):Prop where
  obj:za heap P=some (.rows 1 (Vn qs Ls))
  tip:∀ (k q:Nat) (L:List Int),qs[k]?=some q→Ls[k]?=some L→za heap q=some (.tip 1 L.length)
  len:qs.length=Ls.length
  nd:∀ (i j q:Nat),qs[i]?=some q→qs[j]?=some q→i=j
theorem NestOk.grow {heap heap':List (Nat×Zaf)} {N N' P:Nat} {qs:List Nat} {Ls:List (List Int)} (h:NestOk heap N P qs Ls) {k q:Nat} {L:List Int} (hq:qs[k]?=some q) (hP:za heap' P=some (.rows 1 (Vn qs (Ls.set k L)))) (hT:za heap' q=some (.tip 1 L.length))
    (hE:∀ j,j≠P→j≠q→(za heap j).isSome=true→za heap' j=za heap j):NestOk heap' N' P qs (Ls.set k L) where
  obj:=hP
  len:=by simp [h.len]
  nd:=h.nd
  tip:=fun k' q' L' h1 h2=>by
    by_cases e:k'=k
    · subst e
      have hlt:k' < Ls.length:=by
        have:=(List.getElem?_eq_some_iff.1 h1).1;rw [h.len] at this;exact this
      rw [List.getElem?_set_self hlt] at h2
      cases h2
      rw [hq] at h1;cases h1
      exact hT
    · rw [List.getElem?_set_ne (Ne.symm e)] at h2
      have h3:=h.tip k' q' L' h1 h2
      rw [hE q' (fun e2=>by rw [e2,h.obj] at h3;cases h3) (fun e2=>e (h.nd k' k q (by rw [←e2];exact h1) hq)) (by rw [h3];rfl)]
      exact h3
section
section
variable {C:Ctx} {g g':Gh} {h h':Nat→Option Zaf} {N N':Nat→Prop} {w w':World} {id:Nat}
theorem Wk (R:RH C g h N w) (hid:¬ N id) {i sz:Nat} {all:List (List IV)} (hi:h i=some (.rows sz (all.map fun r=>r.map AV.imm))) {v0:Value} (hv0:RV C g h N w (.Zal i 0 all.length) v0) :
    ∃ g',(∀ k,k≠id→k≠i→g'.ρ k=g.ρ k)∧(∀ b,g.Z b=0→g.ρ i≠some b→g'.Z b=0)∧Evo g h N w g' (hup [(i,.dead),(id,.tip sz all.length)] h) (z8 N id) w∧RH C g' (hup [(i,.dead),(id,.tip sz all.length)] h) (z8 N id) w∧RV C g' (hup [(i,.dead),(id,.tip sz all.length)] h) (z8 N id) w (.Zas id all) v0:=by
  have hN:=R.key i _ hi
  have hne:i≠id:=fun e=>hid (e ▸ hN)
  have hidN:∀ k,N k→k≠id:=fun k hk e=>hid (e ▸ hk)
  let g':Gh:=⟨fun k=>if k=id then g.ρ i else if k=i then none else g.ρ k,fun b=>if g.ρ i=some b then all.length*sz else g.Z b⟩
  have hz0:∀ b,g.ρ i=some b→g.Z b=0:=fun b hb=>(R.obj i b _ hb hi).1
  have hzm:∀ b,g.Z b≤g'.Z b:=fun b=>by
    simp only [g'];split
    · rename_i e;rw [hz0 b e];exact Nat.zero_le _
    · exact Nat.le_refl _
  have hz':∀ b,g.ρ i≠some b→g'.Z b=g.Z b:=fun b hb=>by simp only [g',if_neg hb]
  have hup':∀ k o,hup [(i,Zaf.dead),(id,Zaf.tip sz all.length)] h k=some o→(k=i∧o=.dead)∨(k=id∧o=.tip sz all.length)∨(k≠i∧k≠id∧h k=some o):=fun k o ho=>by
    simp only [hup] at ho
    split at ho
    · rename_i e;cases ho;exact .inl ⟨e.symm,rfl⟩
    · rename_i e
      split at ho
      · rename_i e2;cases ho;exact .inr (.inl ⟨e2.symm,rfl⟩)
      · rename_i e2;exact .inr (.inr ⟨fun e3=>e e3.symm,fun e3=>e2 e3.symm,ho⟩)
  have hrho:∀ k,k≠id→k≠i→g'.ρ k=g.ρ k:=fun k h1 h2=>by simp only [g',if_neg h1,if_neg h2]
  have hrid:g'.ρ id=g.ρ i:=by simp only [g',if_pos]
  have hri:g'.ρ i=none:=by simp only [g',if_neg hne,if_pos]
  have hback:∀ k b,g'.ρ k=some b→(k=id∧g.ρ i=some b)∨(k≠id∧k≠i∧g.ρ k=some b):=fun k b hk=>by
    by_cases h1:k=id
    · subst h1;rw [hrid] at hk;exact .inl ⟨rfl,hk⟩
    · by_cases h2:k=i
      · subst h2;rw [hri] at hk;cases hk
      · rw [hrho k h1 h2] at hk;exact .inr ⟨h1,h2,hk⟩
  have E:Evo g h N w g' (hup [(i,.dead),(id,.tip sz all.length)] h) (z8 N id) w:={
    os:=rfl
    tape:=rfl
    output:=rfl
    size:=Nat.le_refl _
    old:=fun b _ hno=>⟨rfl,hz' b fun e=>hno ⟨i,e⟩⟩
    own:=fun b ⟨k,hk⟩=>by
      rcases hback k b hk with ⟨_,h1⟩ | ⟨_,_,h1⟩
      · exact .inl ⟨i,h1⟩
      · exact .inl ⟨k,h1⟩
    zmono:=hzm
    cell:=Frz.refl _ _
    shape:=fun b c e hb=>⟨c,hb,rfl⟩
    next:=fun _ hk=>.inl hk
    rho:=fun k b hb o ho hnd hk=>by
      rcases hup' k o ho with ⟨_,h2⟩ | ⟨h2,_⟩ | ⟨h1,h2,_⟩
      · exact absurd h2 hnd
      · exact absurd h2 (hidN k hk)
      · exact .inl (by rw [hrho k h2 h1];exact hb)
    rho0:=fun k hb hk o ho hnd=>by
      rcases hup' k o ho with ⟨_,h2⟩ | ⟨h2,_⟩ | ⟨h1,h2,_⟩
      · exact absurd h2 hnd
      · exact absurd h2 (hidN k hk)
      · exact .inl (by rw [hrho k h2 h1];exact hb)
    rows:=fun k hk s r ho=>by
      rcases hup' k _ ho with ⟨_,h2⟩ | ⟨_,h2⟩ | ⟨_,_,h2⟩
      · cases h2
      · cases h2
      · exact ⟨r,h2,rfl⟩
    tips:=fun k hk s l ho=>by
      rcases hup' k _ ho with ⟨_,h2⟩ | ⟨h2,_⟩ | ⟨_,_,h2⟩
      · cases h2
      · exact absurd h2 (hidN k hk)
      · exact ⟨l,h2,Nat.le_refl _⟩
    maps:=fun k hk es ho=>by
      rcases hup' k _ ho with ⟨_,h2⟩ | ⟨_,h2⟩ | ⟨_,_,h2⟩
      · cases h2
      · cases h2
      · exact ⟨es,h2⟩
    lps:=fun k hk ll RR s pe ho=>by
      rcases hup' k _ ho with ⟨_,h2⟩ | ⟨_,h2⟩ | ⟨_,_,h2⟩
      · cases h2
      · cases h2
      · exact ⟨s,pe,h2⟩}
  have hval:(g.ρ i=none∧all=[]∧v0=.slice none 0 0)∨∃ b cap c e,g.ρ i=some b∧v0=.slice (some ⟨b,0,none⟩) all.length cap∧all.length≤cap∧w.heap[b]?=some (.cells c e (0,0))∧cap*sz≤c.size ∧
      (∀ row∈all,row.length=sz)∧∀ (k:Nat) (row:List IV) (j:Nat) (y:IV),all[k]?=some row→row[j]?=some y→∃ cv,c[k*sz+j]?=some cv∧cv.oneCell'=true∧RI g.Z w y cv:=by
    cases hv0 with
    | Zal _ _ _ _ _ _ hp=>
      obtain ⟨_,h2⟩:=hp sz _ hi
      rcases h2 with ⟨a1,a2,a3⟩ | ⟨b,cap,c,e,b1,b2,b3,b4,b5⟩
      · exact .inl ⟨a1,by simpa using a2,a3⟩
      · have hobj:=R.obj i b _ b1 hi
        obtain ⟨z0,c2,e2,c3,c4,c5⟩:=hobj
        rw [b4] at c3
        cases c3
        refine .inr ⟨b,cap,c,e,b1,by simpa using b2,b3,b4,by simpa using b5,fun row hr => ?_,fun k row j y hk hj => ?_⟩
        · obtain ⟨k,hk⟩:=List.getElem?_of_mem hr
          have:=c4 k (row.map AV.imm) (by rw [List.getElem?_map,hk];rfl)
          simpa using this
        · obtain ⟨cv,u1,u2,u3⟩:=c5 k (row.map AV.imm) j (.imm y) (by rw [List.getElem?_map,hk];rfl) (by rw [List.getElem?_map,hj];rfl)
          cases u3 with
          | imm _ _ hri=>exact ⟨cv,u1,u2,hri⟩
  refine ⟨g',hrho,fun b h1 h2=>by rw [hz' b h2];exact h1,E,⟨fun k l b hk hl => ?_,fun k b hk => ?_,fun k o ho => ?_,fun k b o hk ho => ?_,fun k s l ho hn => ?_,fun b hb => ?_,R.fix.evo E⟩,?_⟩
  · rcases hback k b hk with ⟨h1,h2⟩ | ⟨h1,h2,h3⟩<;>rcases hback l b hl with ⟨h4,h5⟩ | ⟨h4,h5,h6⟩
    · rw [h1,h4]
    · exact absurd (R.inj _ _ b h6 h2) h5
    · exact absurd (R.inj _ _ b h3 h5) h2
    · exact R.inj _ _ b h3 h6
  · rcases hback k b hk with ⟨h1,h2⟩ | ⟨h1,h2,h3⟩
    · exact ⟨(R.lt i b h2).1,.inr h1⟩
    · exact ⟨(R.lt k b h3).1,.inl (R.lt k b h3).2⟩
  · rcases hup' k o ho with ⟨h1,_⟩ | ⟨h1,_⟩ | ⟨_,_,h1⟩
    · exact .inl (h1 ▸ hN)
    · exact .inr h1
    · exact .inl (R.key k o h1)
  · rcases hback k b hk with ⟨h1,h2⟩ | ⟨h1,h2,h3⟩
    · rcases hup' k o ho with ⟨h4,_⟩ | ⟨_,h4⟩ | ⟨_,h4,_⟩
      · exact absurd (h4.symm.trans h1) hne
      · subst h4
        rcases hval with ⟨a1,_⟩ | ⟨b',cap,c,e,b1,b2,b3,b4,b5,b6,_⟩
        · rw [a1] at h2;cases h2
        · rw [b1] at h2;cases h2
          refine ⟨c,e,b4,by simp only [g',if_pos b1],Nat.le_trans (Nat.mul_le_mul_right _ b3) b5⟩
      · exact absurd h1 h4
    · rcases hup' k o ho with ⟨h4,_⟩ | ⟨h4,_⟩ | ⟨_,_,h4⟩
      · exact absurd h4 h2
      · exact absurd h4 h1
      · exact (R.obj k b o h3 h4).keep E rfl (hz' b fun e=>h2 (R.inj _ _ b h3 e))
  · rcases hup' k _ ho with ⟨_,h1⟩ | ⟨h1,h2⟩ | ⟨h1,h2,h3⟩
    · cases h1
    · cases h2
      rw [h1,hrid] at hn
      rcases hval with ⟨_,a2,_⟩ | ⟨b,_,_,_,b1,_⟩
      · rw [a2];rfl
      · rw [b1] at hn;cases hn
    · exact R.tip0 k s l h3 (by rw [←hrho k h2 h1];exact hn)
  · by_cases e:g.ρ i=some b
    · exact (R.lt i b e).1
    · rw [hz' b e] at hb;exact R.zlt b hb
  · rcases hval with ⟨a1,a2,a3⟩ | ⟨b,cap,c,e,b1,b2,b3,b4,b5,b6,b7⟩
    · subst a2 a3
      refine .Zas id [] _ .nil (.inr rfl) fun s l hs => ?_
      rcases hup' id _ hs with ⟨_,h1⟩ | ⟨_,h1⟩ | ⟨_,h1,_⟩
      · cases h1
      · cases h1
        exact ⟨Nat.le_refl _,fun k row hk=>by simp at hk,fun _=>.inl ⟨by rw [hrid];exact a1,rfl⟩⟩
      · exact absurd rfl h1
    · subst b2
      have hzb:g'.Z b=all.length*sz:=by simp only [g',if_pos b1]
      have hsl:∀ (k:Nat) (row:List IV),all[k]?=some row→row.length=sz:=fun k row hk=>b6 row (List.mem_of_getElem? hk)
      refine .Zas id all _ ?_ (.inr rfl) fun s l hs => ?_
      · refine .slice all b 0 cap sz (fun k j=>(c[k*sz+j]?).getD default) b3 hsl (fun k row j y hk hj => ?_) (fun k row j y hk hj => ?_) (fun k row j y hk hj => ?_)
        · have h1:=hsl k row hk
          have h2:j < row.length:=(List.getElem?_eq_some_iff.1 hj).1
          have h3:k < all.length:=(List.getElem?_eq_some_iff.1 hk).1
          have h4:(k+1)*sz≤all.length*sz:=Nat.mul_le_mul_right _ h3
          rw [Nat.add_mul] at h4
          rw [hzb];omega
        · obtain ⟨cv,u1,u2,u3⟩:=b7 k row j y hk hj
          rw [Nat.zero_add,qv b4,u1]
          exact ⟨rfl,u2⟩
        · obtain ⟨cv,u1,u2,u3⟩:=b7 k row j y hk hj
          rw [u1]
          exact u3.mono hzm (Frz.refl _ _)
      · rcases hup' id _ hs with ⟨_,h1⟩ | ⟨_,h1⟩ | ⟨_,h1,_⟩
        · cases h1
        · cases h1
          exact ⟨Nat.le_refl _,hsl,fun _=>.inr ⟨b,cap,c,e,by rw [hrid];exact b1,rfl,b4,b5⟩⟩
        · exact absurd rfl h1
end
theorem zdO {st:St} (t a0 b0 id sz i sz':Nat) (rows:List (List AV)) (r j:Nat) (row:List AV) (all:List (List IV)) (ht:za st.env t=some (.ptr id a0 b0)) (ho:za st.heap id=some (.rows sz rows)) (hr:rows[r]?=some row) (hj:row[j]?=some (.Zal i 0 all.length))
    (hi:za st.heap i=some (.rows sz' (all.map fun r=>r.map AV.imm))) (hne:i≠id) :
    Weak st ⟨st.env,zj (zj (zJ st.heap st.next (.tip sz' all.length)) i .dead) id (.rows sz (rows.set r (row.set j (.Zas st.next all)))),st.next+1⟩:=by
  intro C nt g a w R
  have hidn:id < st.next:=R.heap.key _ _ ho
  have hin:i < st.next:=R.heap.key _ _ hi
  obtain ⟨bo,hbo,_⟩:∃ b,g.ρ id=some b∧True:=by
    have:=R.env.slot t _ ht
    cases this with
    | ptr _ _ _ _ _ _ hp=>obtain ⟨b,hb,_⟩:=hp _ _ ho;exact ⟨b,hb,trivial⟩
  obtain ⟨z0,c0,e0,k1,k2,k3⟩:=R.heap.obj id bo _ hbo ho
  obtain ⟨cv0,q1,q2,q3⟩:=k3 r row j _ hr hj
  obtain ⟨g',hrho,hzz,E,H,hv⟩:=Wk (id:=st.next) R.heap (Nat.lt_irrefl _) hi q3
  rw [jA] at E H hv
  have e1:hup [(i,Zaf.dead),(st.next,Zaf.tip sz' all.length)] (za st.heap)=za (zj (zJ st.heap st.next (.tip sz' all.length)) i .dead):=by
    funext k;simp only [hup,zo,z6]
  rw [e1] at E H hv
  obtain ⟨hp1,hhp1⟩:∃ hp,hp=zj (zJ st.heap st.next (.tip sz' all.length)) i .dead:=⟨_,rfl⟩
  rw [←hhp1] at E H hv ⊢
  have hgid:g'.ρ id=g.ρ id:=hrho id (by omega) (fun e=>hne e.symm)
  have ho':za hp1 id=some (.rows sz rows):=by rw [hhp1,zo,if_neg hne,z6,if_neg (by omega)];exact ho
  have hh:∀ k o,za (zj hp1 id (.rows sz (rows.set r (row.set j (.Zas st.next all))))) k=some o→(k=id∧o=.rows sz (rows.set r (row.set j (.Zas st.next all))))∨(k≠id∧za hp1 k=some o):=fun k o h=>by
    rw [zo] at h
    split at h
    · rename_i e;exact .inl ⟨e.symm,by cases h;rfl⟩
    · rename_i e;exact .inr ⟨fun e2=>e e2.symm,h⟩
  have E2:Evo g' (za hp1) (· < st.next+1) w g' (za (zj hp1 id (.rows sz (rows.set r (row.set j (.Zas st.next all)))))) (· < st.next+1) w:={Evo.refl g' (za hp1) (· < st.next+1) w with
    rho:=fun i b hb _ _ _ _=>.inl hb
    rho0:=fun i hb _ _ _ _=>.inl hb
    rows:=fun i _ s q h1=>by
      rcases hh i _ h1 with ⟨e1,e2⟩ | ⟨_,e2⟩
      · subst e1;cases e2;exact ⟨_,ho',by simp⟩
      · exact ⟨q,e2,rfl⟩
    tips:=fun i _ s l h1=>by
      rcases hh i _ h1 with ⟨_,e2⟩ | ⟨_,e2⟩
      · cases e2
      · exact ⟨l,e2,Nat.le_refl _⟩
    maps:=fun i _ es h1=>by
      rcases hh i _ h1 with ⟨_,e2⟩ | ⟨_,e2⟩
      · cases e2
      · exact ⟨es,e2⟩
    lps:=fun i _ ll RR s pe h1=>by
      rcases hh i _ h1 with ⟨_,e2⟩ | ⟨_,e2⟩
      · cases e2
      · exact ⟨s,pe,e2⟩}
  refine ⟨g',⟨⟨R.env.size,(R.env.defers.evo E).evo E2,fun t x hx=>((R.env.slot t x hx).mono E).mono E2⟩,⟨H.inj,H.lt,fun i o h1 => ?_,fun i b o h1 h2 => ?_,fun i s l h1 h2 => ?_,H.zlt,H.fix.evo E2⟩⟩,fun g0 st0 w0 hm E0=>Evo.trans (Evo.trans E0 E) E2⟩
  · rcases hh i o h1 with ⟨e1,_⟩ | ⟨_,e2⟩
    · subst e1;exact H.key _ _ ho'
    · exact H.key i o e2
  · rcases hh i o h2 with ⟨e1,e2⟩ | ⟨_,e2⟩
    · rw [e1,hgid,hbo] at h1
      have hro:=H.obj _ b _ (by rw [hgid,hbo];exact h1) ho'
      cases h1
      subst e2
      simp only [RObj] at hro ⊢
      obtain ⟨a1,c,e,a2,a3,a4⟩:=hro
      rw [k1] at a2
      cases a2
      have hrl:r < rows.length:=(List.getElem?_eq_some_iff.1 hr).1
      have hjl:j < row.length:=(List.getElem?_eq_some_iff.1 hj).1
      refine ⟨a1,c0,e0,k1,fun i q hi => ?_,fun i q k x hi hk => ?_⟩
      · rw [List.getElem?_set] at hi
        split at hi
        · rename_i e3;subst e3;cases hi;simpa using a3 _ row hr
        · exact a3 i q hi
      · rw [List.getElem?_set] at hi
        split at hi
        · rename_i e3
          subst e3
          cases hi
          rw [List.getElem?_set] at hk
          split at hk
          · rename_i e4
            subst e4
            cases hk
            exact ⟨cv0,q1,q2,hv.mono E2⟩
          · obtain ⟨cv,b1,b2,b3⟩:=a4 _ row k x hr hk
            exact ⟨cv,b1,b2,b3.mono E2⟩
        · obtain ⟨cv,b1,b2,b3⟩:=a4 i q k x hi hk
          exact ⟨cv,b1,b2,b3.mono E2⟩
    · exact (H.obj i b o h1 e2).keep E2 rfl rfl
  · rcases hh i _ h1 with ⟨_,e2⟩ | ⟨_,e2⟩
    · cases e2
    · exact H.tip0 i s l e2 h2
theorem zdP {st:St} (t i sz':Nat) (all:List (List IV)) (ht:za st.env t=some (.Zal i 0 all.length)) (hi:za st.heap i=some (.rows sz' (all.map fun r=>r.map AV.imm))) :
    Weak st ⟨zj st.env t (.Zas st.next all),zj (zJ st.heap st.next (.tip sz' all.length)) i .dead,st.next+1⟩:=by
  intro C nt g a w R
  obtain ⟨g',hrho,hzz,E,H,hv⟩:=Wk (id:=st.next) R.heap (Nat.lt_irrefl _) hi (R.env.slot t _ ht)
  rw [jA] at E H hv
  have e1:hup [(i,Zaf.dead),(st.next,Zaf.tip sz' all.length)] (za st.heap)=za (zj (zJ st.heap st.next (.tip sz' all.length)) i .dead):=by
    funext k;simp only [hup,zo,z6]
  rw [e1] at E H hv
  refine ⟨g',⟨⟨R.env.size,R.env.defers.evo E,fun t' x hx => ?_⟩,H⟩,fun g0 st0 w0 hm E0=>E0.trans E⟩
  rw [zo] at hx
  split at hx
  · rename_i e
    subst e
    cases hx
    exact hv
  · exact (R.env.slot t' x hx).mono E
end
section
def YZ:List Nat→List AV→List (Nat×AV)→List (Nat×AV)
  | p::ps,x::xs,env=>YZ ps xs (zj env p x)
  | _,_,env=>env
def CtxY.round (C:CtxY) (l:Nat):CtxY:={C.toCtx with ro:=some l,at0:=none,Y:=noY,ymono:=fun _ _ _ _ _ _ _ _ h=>h,yok:=fun _ _ _ _ _ _ h=>h.elim}
def zft (idl L:Nat) (R:LoopState→Option Code→Loop) (KK:AV→List (Nat×Zaf)→Nat→Prop):Exit→St→Prop
  | .normal,s=>za s.heap idl=some (.lp L R .busy none)∧KK (.imm (.bool true)) (zj s.heap idl (.lp L R .ready none)) (s.next+1)
  | .ret,s=>za s.heap idl=some (.lp L R .busy none)∧KK (.imm (.bool false)) (zj s.heap idl (.lp L R .done (some .ret))) (s.next+1)
  | .exit id,s=>za s.heap idl=some (.lp L R .busy none)∧KK (.imm (.bool false)) (zj s.heap idl (.lp L R .done (some (.exit id)))) (s.next+1)
  | _,_=>False
def zfu (C:CtxY) (nt:Fr) (idl L:Nat) (R:LoopState→Option Code→Loop) (y:ZaG) (KK:AV→List (Nat×Zaf)→Nat→Prop) (s:St):Prop:=
  za s.heap idl=some (.lp L R .ready none)∧awp (C.round L) nt y (zft idl L R KK) ⟨s.env,zj s.heap idl (.lp L R .busy none),s.next+1⟩
def Zo (C:CtxY) (nt:Fr) (env:List (Nat×AV)) (idl L:Nat) (R:LoopState→Option Code→Loop) (ps:List Nat) (x y:ZaG):Nat→Nat→List AV→List (Nat×Zaf)→Nat→(AV→List (Nat×Zaf)→Nat→Prop)→Prop:=
  fun l id args heap next KK=>l=L∧id=idl∧args.length=ps.length∧za heap idl=some (.lp L R .ready none) ∧
    awp (C.round L) nt x (yD (zfu C nt idl L R y KK) (fun _ _=>False)) ⟨YZ ps args env,heap,next⟩
def zgH (env:List (Nat×AV)) (idl L:Nat) (R:LoopState→Option Code→Loop) (K:Exit→St→Prop) (heap:List (Nat×Zaf)) (next:Nat):Prop:=
  (za heap idl=some (.lp L R .ready none)∧K .normal ⟨env,zj heap idl (.lp L R .exhausted none),next+1⟩) ∨
  (za heap idl=some (.lp L R .done (some .ret))∧K .ret ⟨env,zj heap idl (.lp L R .exhausted (some .ret)),next+1⟩) ∨
  (∃ id,za heap idl=some (.lp L R .done (some (.exit id)))∧K (.exit id) ⟨env,zj heap idl (.lp L R .exhausted (some (.exit id))),next+1⟩)
section
variable {C:CtxY} {nt:Fr} {g g':Gh} {st:St} {a:Act} {w:World}
theorem zck {code:Code} {f:Opd} {ps:List Nat} {x y:ZaG} (hc:comp C nt.n code=some (.range f ps x y)):∃ fo psA p q,code=.rangeFunc fo psA p q∧f=C.opd fo∧ps=psA.toList∧(∀ t∈ps,t < nt.n)∧comp C nt.n p=some x∧comp C nt.n q=some y:=by
  cases code<;>simp only [comp] at hc<;>(repeat' split at hc)<;>cases hc
  rename_i hall _ _ h1 h2
  exact ⟨_,_,_,_,rfl,rfl,rfl,fun t ht=>by have:=List.all_eq_true.1 hall t ht;simpa using this,h1,h2⟩
theorem Wl {env:List (Nat×AV)} {idl L:Nat} {R:LoopState→Option Code→Loop} {ps:List Nat} {x y:ZaG}:∀ l id args heap next (K K':AV→List (Nat×Zaf)→Nat→Prop),(∀ r h n,K r h n→K' r h n)→Zo C nt env idl L R ps x y l id args heap next K→Zo C nt env idl L R ps x y l id args heap next K':=by
  rintro l id args heap next K K' hk ⟨h1,h2,h3,h4,h5⟩
  refine ⟨h1,h2,h3,h4,qS (fun e s hs => ?_) h5⟩
  cases e with
  | normal=>
    refine ⟨hs.1,qS (fun e s hs => ?_) hs.2⟩
    cases e with
    | normal=>exact ⟨hs.1,hk _ _ _ hs.2⟩
    | ret=>exact ⟨hs.1,hk _ _ _ hs.2⟩
    | exit id=>exact ⟨hs.1,hk _ _ _ hs.2⟩
    | _=>exact hs
  | _=>exact hs
theorem KS {h:Nat→Option Zaf} {N:Nat→Prop}:∀ (ps:List Nat) (args:List AV) (vs:List Value) (env:List (Nat×AV)) (a:Act),(∀ t∈ps,t < nt.n)→RE C nt g env h N a w→RVs C g h N w args vs →
    RE C nt g (YZ ps args env) h N {a with tmps:=(ps.zip vs).foldl (fun t pv=>t.setIfInBounds pv.1 pv.2) a.tmps} w
  | [],args,vs,env,a,_,R,_=>by cases args<;>exact R
  | p::ps,[],vs,env,a,_,R,hv=>by
    have:vs=[]:=List.eq_nil_of_length_eq_zero hv.1.symm
    subst this
    exact R
  | p::ps,x::xs,[],env,a,_,R,hv=>by have:=hv.1;simp at this
  | p::ps,x::xs,v::vs,env,a,hp,R,hv=>by
    have R1:=R.put p (hp p (by simp)) (hv.2 0 x v rfl rfl)
    have:=KS ps xs vs (zj env p x) (a.put (some p) v) (fun t ht=>hp t (by simp [ht])) R1 ⟨by have:=hv.1;simpa using this,fun j y u hj hu=>hv.2 (j+1) y u (by simpa using hj) (by simpa using hu)⟩
    exact this
theorem Vo {heap:List (Nat×Zaf)} {next:Nat} {idl L:Nat} {R:LoopState→Option Code→Loop} {s s':LoopState} {pe pe':Option Code} (H:RH C g (za heap) (· < next) w) (ho:za heap idl=some (.lp L R s pe)) (hρ:g.ρ idl=some L) :
    w.heap[L]?=some (.loop (R s pe))∧Evo g (za heap) (· < next) w g (za (zj heap idl (.lp L R s' pe'))) (· < next+1) (w.putObj L (.loop (R s' pe')))∧RH C g (za (zj heap idl (.lp L R s' pe'))) (· < next+1) (w.putObj L (.loop (R s' pe'))):=by
  have H0:=H.obj idl L _ hρ ho
  obtain ⟨hz,_,hb⟩:=H0
  have E:=Jy (id:=next) H hρ hz (.lp L R s pe) (.lp L R s' pe') ho (.loop (R s' pe')) ⟨rfl,rfl⟩ (fun c e hc=>by rw [hb] at hc;cases hc)
  have hR:=XL (id:=next) H hρ (.lp L R s' pe') (.loop (R s' pe')) (fun _ _ h=>by cases h) E ⟨hz,rfl,by rw [zA w L _ (zR hb),if_pos rfl]⟩
  rw [jA] at E hR
  have e1:hup [(idl,Zaf.lp L R s' pe')] (za heap)=za (zj heap idl (.lp L R s' pe')):=by
    funext i;simp only [hup,zo]
  rw [e1] at E hR
  exact ⟨hb,E,hR⟩
theorem zdQ (hro:C.ro=none) {f:Opd} {ps:List Nat} {x y:ZaG} {K:Exit→St→Prop} {gf:Nat} {caps:List AV} (hf:zd st.env f=.func gf [] caps) {F:AFun} (hF:qt C gf=some F.erase) (hn:caps.length+1≤F.nt)
    (h:∀ (L:Nat) (R:LoopState→Option Code→Loop) (at0:Option (Gh×St×World)) ym yk (B:Nat),
      awp ⟨C.toCtx,none,at0,Zo C nt st.env st.next L R ps x y,ym,yk⟩ ⟨F.nt,B⟩ F.body (ze1 F fun _ heap next=>zgH st.env st.next L R K heap next)
        ⟨qY 0 (.yld L st.next::caps),zj st.heap st.next (.lp L R .ready none),st.next+1⟩):awp C nt (.range f ps x y) K st:=by
  intro code hc g a w Rl hI
  obtain ⟨fo,psA,p,q,rfl,rfl,rfl,hps,hp,hq⟩:=zck hc
  rw [hro]
  refine wpIn_rangeFunc ?_
  intro fn _
  have hv:=yX Rl fo
  rw [hf] at hv
  generalize hval:a.eval fo=v at hv
  cases hv with
  | func _ _ _ vf vc hlf hlc hf1 hc1=>
  obtain rfl:vf=[]:=List.eq_nil_of_length_eq_zero hlf.symm
  obtain ⟨R,hRd⟩:∃ R:LoopState→Option Code→Loop,R=fun s pe=>{state:=s,pending:=pe,fn,tmps:=a.tmps,params:=psA,assign:=p,body:=q,defers:=w.heap.size}:=⟨_,rfl⟩
  have hRs:∀ s s' pe pe',{R s pe with state:=s',pending:=pe'}=R s' pe':=fun s s' pe pe'=>by rw [hRd]
  have hB:Below w.heap.size w (w.alloc (.deferred (some []))):=(Below.refl _ w).alloc (Nat.le_refl _) _
  have E0:Evo g (za st.heap) (· < st.next) w g (za st.heap) (· < st.next) (w.alloc (.deferred (some []))):=xE Rl.heap hB (fun _ _=>rfl)
  have H0:RH C g (za st.heap) (· < st.next) (w.alloc (.deferred (some []))):=yY Rl.heap hB (fun _ _=>rfl) (fun b hb=>by have:=Rl.heap.zlt b hb;simp;omega)
  have hid:¬ (st.next < st.next):=Nat.lt_irrefl _
  have E1:=Jx (id:=st.next) H0 hid (.loop (R .ready none)) (.lp (w.heap.size+1) R .ready none) 0
  have H1:=Kc (id:=st.next) H0 hid (.loop (R .ready none)) (.lp (w.heap.size+1) R .ready none) 0 ⟨by simp [Gh.at],by simp,zK _ _⟩
  have e1:hup [(st.next,Zaf.lp (w.heap.size+1) R .ready none)] (za st.heap)=za (zj st.heap st.next (.lp (w.heap.size+1) R .ready none)):=by
    funext i;simp only [hup,zo]
  rw [jA,e1] at E1 H1
  obtain ⟨W1,hW1⟩:∃ W1,(w.alloc (.deferred (some []))).alloc (.loop (R .ready none))=W1:=⟨_,rfl⟩
  rw [hW1] at E1 H1
  have hl:(w.alloc (.deferred (some []))).heap.size=w.heap.size+1:=by simp
  rw [hl] at E1 H1
  obtain ⟨g1,hg1⟩:∃ g1,g.at st.next (w.heap.size+1) 0=g1:=⟨_,rfl⟩
  have hρ:g1.ρ st.next=some (w.heap.size+1):=by rw [←hg1];simp [Gh.at]
  have hown:¬ wJ g1 w.heap.size:=by
    rw [←hg1]
    rintro ⟨i,hi⟩
    simp only [Gh.at] at hi
    split at hi
    · have:=Option.some.inj hi;omega
    · have:=(Rl.heap.lt i _ hi).1;omega
  rw [hg1] at E1 H1
  have E01:=Evo.trans E0 E1
  have hD1:W1.heap[w.heap.size]?=some (.deferred (some [])):=by
    rw [←hW1];exact (qn _ _ (by simp)).trans (zK _ _)
  have M1:Marks nt.B g1 W1 ({target:=.collected w.heap.size,args := #[]}::a.defers):=by
    obtain ⟨m0,Ds,m1,m2,m3⟩:=Rl.env.defers
    refine ⟨Nat.le_trans m0 E01.size,w.heap.size::Ds,by rw [m1];rfl,List.nodup_cons.2 ⟨fun hm => ?_,m2⟩,fun D hD => ?_⟩
    · have:=(Array.getElem?_eq_some_iff.1 (m3 _ hm).2.1).1;omega
    · rcases List.mem_cons.1 hD with rfl | hD
      · exact ⟨m0,hD1,hown⟩
      · obtain ⟨n1,n2,n3⟩:=m3 D hD
        have hlt:=(Array.getElem?_eq_some_iff.1 n2).1
        exact ⟨n1,(E01.old D hlt n3).1.trans n2,fun ho=>(E01.own D ho).elim n3 (fun h=>by omega)⟩
  have yk:∀ l id args heap next KK,Zo C nt st.env st.next (w.heap.size+1) R psA.toList x y l id args heap next KK→∀ (g':Gh) (w':World) (vs:List Value),RH C g' (za heap) (· < next) w'→RVs C g' (za heap) (· < next) w' args vs→(∀ R s pe,za heap id=some (.lp l R s pe)→g'.ρ id=some l) →
      Evo g1 (za (zj st.heap st.next (.lp (w.heap.size+1) R .ready none))) (· < st.next+1) W1 g' (za heap) (· < next) w' →
      YieldAt Fence.wide 0 C.P l vs.toArray w' fun e w''=>∃ v r heap' next' g'',e=.returned v∧KK r heap' next'∧Evo g' (za heap) (· < next) w' g'' (za heap') (· < next') w''∧RH C g'' (za heap') (· < next') w''∧RV C g'' (za heap') (· < next') w'' r v:=by
    rintro l id args heap next KK ⟨rfl,rfl,hlen,hrec,hwp⟩ g' w' vs H' hvs hlp E'
    have hρ':=hlp R _ _ hrec
    have hb':w'.heap[w.heap.size+1]?=some (.loop (R .ready none)):=(H'.obj _ _ _ hρ' hrec).2.2
    have hszs:vs.toArray.size=(R .ready none).params.size:=by rw [hRd];have:=hvs.1;simp only [List.size_toArray];rw [←this,hlen];simp
    have hy:=run_yield (P:=C.P) hb' hszs
    refine ⟨_,_,_,_,hy,?_⟩
    rw [hRd]
    simp only
    refine roundIn_of_wpIn trivial ?_
    have Etot:=Evo.trans E01 E'
    have RE0:RE C nt g' st.env (za heap) (· < next) {a with defers:=[]} w':=⟨Rl.env.size,Marks.nil _ (Nat.le_trans Rl.env.defers.1 Etot.size),fun t z hz=>(Rl.env.slot t z hz).mono Etot⟩
    have RE1:=KS psA.toList args vs st.env {a with defers:=[]} hps RE0 hvs
    have hz:(psA.zip vs.toArray).foldl (fun tmps (t,a)=>tmps.setIfInBounds t a) a.tmps=(psA.toList.zip vs).foldl (fun t pv=>t.setIfInBounds pv.1 pv.2) a.tmps:=by
      rw [←Array.foldl_toList];simp
    rw [hz]
    refine Code.wpIn_mono ?_ (hwp p hp g' _ w' ⟨RE1,H'⟩ trivial)
    rintro e a1 w1 ⟨st1,g1',hk,R1,E2⟩
    cases e with
    | normal=>
      obtain ⟨hk1,hk2⟩:=hk
      have hρ1:g1'.ρ st.next=some (w.heap.size+1):=by
        rcases E2.rho _ _ hρ' _ hk1 (by simp) (H'.key _ _ hrec) with h4 | ⟨_,_,_,_,_,e2,_⟩
        · exact h4
        · cases e2
      obtain ⟨hb1,E3,H3⟩:=Vo (s':=.busy) (pe':=none) R1.heap hk1 hρ1
      refine ⟨_,run_beginRound hb1 (by rw [hRd]),?_⟩
      have e3:({R .ready none with state:=.busy}:Loop)=R .busy none:=by rw [hRd]
      rw [e3]
      have R3:Rel C nt g1' ⟨st1.env,zj st1.heap st.next (.lp (w.heap.size+1) R .busy none),st1.next+1⟩ a1 (w1.putObj (w.heap.size+1) (.loop (R .busy none))):=⟨R1.env.mono E3,H3⟩
      refine Code.wpIn_mono ?_ (hk2 q hq g1' a1 _ R3 trivial)
      rintro e a4 w4 ⟨st4,g4,hk4,R4,E4⟩
      have fin:∀ (jump:Option Code),za st4.heap st.next=some (.lp (w.heap.size+1) R .busy none)→KK (.imm (.bool jump.isNone)) (zj st4.heap st.next (.lp (w.heap.size+1) R (if jump.isNone then .ready else .done) jump)) (st4.next+1) →
          ∃ v w'',(Instr.endRound (w.heap.size+1) jump).run C.P w4=.ok v w''∧∃ v' r heap' next' g'',Ending.returned v=.returned v'∧KK r heap' next'∧Evo g' (za heap) (· < next) w' g'' (za heap') (· < next') w''∧RH C g'' (za heap') (· < next') w''∧RV C g'' (za heap') (· < next') w'' r v':=fun jump h5 h6=>by
        have hρ4:g4.ρ st.next=some (w.heap.size+1):=by
          rcases E4.rho _ _ hρ1 _ h5 (by simp) (R3.heap.key st.next (.lp (w.heap.size+1) R .busy none) (by simp only [zo,if_true])) with h7 | ⟨_,_,_,_,_,e2,_⟩
          · exact h7
          · cases e2
        obtain ⟨hb4,E5,H5⟩:=Vo (s':=if jump.isNone then .ready else .done) (pe':=jump) R4.heap h5 hρ4
        have hrun:=run_endRound (P:=C.P) jump hb4
        have e5:({R .busy none with state:=if jump.isNone then .ready else .done,pending:=jump}:Loop)=R (if jump.isNone then .ready else .done) jump:=by rw [hRd]
        rw [e5] at hrun
        exact ⟨_,_,hrun,_,_,_,_,g4,rfl,h6,Evo.trans (Evo.trans (Evo.trans E2 E3) E4) E5,H5,.imm _ _ (.bool _)⟩
      cases e with
      | normal=>exact fin none hk4.1 hk4.2
      | ret=>exact fin (some .ret) hk4.1 hk4.2
      | exit id=>exact fin (some (.exit id)) hk4.1 hk4.2
      | _=>exact hk4.elim
    | _=>exact hk.elim
  have hargs:RVs C g1 (za (zj st.heap st.next (.lp (w.heap.size+1) R .ready none))) (· < st.next+1) W1 (.yld (w.heap.size+1) st.next::caps) (.func (.yield (w.heap.size+1)) #[] #[]::vc):=by
    refine ⟨by simp [hlc],fun j z u hj hu => ?_⟩
    cases j with
    | zero=>
      simp at hj hu
      subst hj hu
      exact .yld _ _ (Nat.lt_succ_self _) fun R' s pe he=>hρ
    | succ j=>exact (hc1 j z u (by simpa using hj) (by simpa using hu)).mono E01
  have hcall:=Xb (C:=⟨C.toCtx,none,some (g1,⟨[],zj st.heap st.next (.lp (w.heap.size+1) R .ready none),st.next+1⟩,W1),Zo C nt st.env st.next (w.heap.size+1) R psA.toList x y,Wl,yk⟩) rfl hF (by simpa [Nat.add_comm] using hn)
    (h (w.heap.size+1) R (some (g1,⟨[],zj st.heap st.next (.lp (w.heap.size+1) R .ready none),st.next+1⟩,W1)) Wl yk) H1 hargs (Evo.refl _ _ _ _)
  obtain ⟨fnF,codeF,hfnF,hcodeF,hnameF,_⟩:=yZ hF
  have eg:∀ args w,(callFunc (C.fnum gf) args).run C.P w=.ok (.enter (C.fnum gf) args) w:=fun args w=>by
    have h4:¬ fnF.body=none:=fun h=>by simp [h] at hcodeF
    have h5 : ¬ fnF.name = "runtime.NumGoroutine" := fun h => by simp [h] at hnameF
    simp [callFunc,hfnF,h4,h5]
  refine ⟨w.heap.size+1,[{target:=.collected w.heap.size,args := #[]}],W1,{target:=.fn (.func (C.fnum gf)) vc.toArray,args := #[.func (.yield (w.heap.size+1)) #[] #[]]},W1,C.fnum gf,
    #[.func (.yield (w.heap.size+1)) #[] #[]]++vc.toArray,W1,?_,?_,fun _ _=>trivial,?_,fun h=>(by cases h),?_⟩
  · rw [←hW1,hRd];exact run_enterLoop_outer _ _ _ _ _
  · simp only [resolve,hval]
    simp [go_sem]
  · simp [invoke,go_sem,eg]
  · have harr : #[Value.func (.yield (w.heap.size+1)) #[] #[]]++vc.toArray=(Value.func (.yield (w.heap.size+1)) #[] #[]::vc).toArray:=by apply Array.ext';simp
    rw [harr]
    refine (callsIn_wide.2 hcall).mono ?_
    rintro e w2 ⟨v,r,heap',next',g2,rfl,hK,E2,H2,_⟩
    have fin:∀ (s:LoopState) (pe:Option Code),s≠.busy→za heap' st.next=some (.lp (w.heap.size+1) R s pe)→(Instr.endLoop (w.heap.size+1)).run C.P w2=.ok pe (w2.putObj (w.heap.size+1) (.loop (R .exhausted pe))) ∧
        Rel C nt g2 ⟨st.env,zj heap' st.next (.lp (w.heap.size+1) R .exhausted pe),next'+1⟩ {a with defers:={target:=.collected w.heap.size,args := #[]}::a.defers} (w2.putObj (w.heap.size+1) (.loop (R .exhausted pe))) ∧
        EvoS g st w g2 ⟨st.env,zj heap' st.next (.lp (w.heap.size+1) R .exhausted pe),next'+1⟩ (w2.putObj (w.heap.size+1) (.loop (R .exhausted pe))):=fun s pe hs ho=>by
      have hρ2:g2.ρ st.next=some (w.heap.size+1):=by
        rcases E2.rho _ _ hρ _ ho (by simp) (Nat.lt_succ_self _) with h4 | ⟨_,_,_,_,_,e2,_⟩
        · exact h4
        · cases e2
      obtain ⟨hb2,E3,H3⟩:=Vo (s':=.exhausted) (pe':=pe) H2 ho hρ2
      have hrun:=run_endLoop (P:=C.P) hb2 (by rw [hRd];exact hs)
      have e5:({R s pe with state:=.exhausted}:Loop)=R .exhausted pe:=by rw [hRd]
      have e6:(R s pe).pending=pe:=by rw [hRd]
      rw [e5,e6] at hrun
      have E13:=Evo.trans E2 E3
      exact ⟨hrun,⟨⟨Rl.env.size,M1.evo E13,fun t z hz=>((Rl.env.slot t z hz).mono E01).mono E13⟩,H3⟩,Evo.trans E01 E13⟩
    rcases hK with ⟨h1,h2⟩ | ⟨h1,h2⟩ | ⟨id,h1,h2⟩
    · obtain ⟨f1,f2,f3⟩:=fin _ _ (by simp) h1
      exact ⟨none,_,f1,_,g2,h2,f2,f3⟩
    · obtain ⟨f1,f2,f3⟩:=fin _ _ (by simp) h1
      exact ⟨some .ret,_,f1,wpIn_ret ⟨_,g2,h2,f2,f3⟩⟩
    · obtain ⟨f1,f2,f3⟩:=fin _ _ (by simp) h1
      exact ⟨some (.exit id),_,f1,wpIn_exit ⟨_,g2,h2,f2,f3⟩⟩
end
end
def kL:Nat→List (List Int)→List (Nat×Zaf)
  | _,[]=>[]
  | b,L::r=>bif Nat.blt b 2000000 then (b,.tip 1 L.length)::kL (b+1) r else []
def xA (Ls:List (List Int)):List (Nat×Zaf):=(qI,.dead)::kL zy Ls
def kh:List (Nat×Zaf)→List (Nat×Zaf)
  | []=>[]
  | (k,o)::r=>match Nat.beq k qI with
    | true=>[]
    | false=>(k,o)::kh r
def kM:List (Nat×Zaf)→List (Nat×Zaf)
  | []=>[]
  | (k,o)::r=>match Nat.beq k qI with
    | true=>(k,o)::r
    | false=>kM r
def vp:List (Nat×Zaf)→Bool
  | []=>true
  | (k,o)::r=>match Nat.beq k qI with
    | true=>true
    | false=>(Nat.blt k qI||Nat.ble 2000000 k)&&vp r
theorem Yb:∀ (Ls:List (List Int)) (b:Nat),(qi b Ls).length=Ls.length
  | [],_=>rfl
  | L::r,b=>by simp [qi,Yb r]
theorem Yc:∀ (Ls:List (List Int)) (b k:Nat) (L:List Int),(qi b Ls).set k (wy (b+k) L)=qi b (Ls.set k L)
  | [],b,k,L=>by simp [qi]
  | M::r,b,0,L=>by simp [qi]
  | M::r,b,k+1,L=>by
    simp only [qi,List.set_cons_succ]
    rw [←Yc r (b+1) k L,show b+1+k=b+(k+1) by omega]
theorem Yd:∀ (Ls:List (List Int)) (b j:Nat),za (kL b Ls) j=if b≤j∧j < 2000000 then (Ls[j - b]?).map (fun L=>Zaf.tip 1 L.length) else none
  | [],b,j=>by simp [kL,za]
  | L::r,b,j=>by
    simp only [kL]
    cases h:Nat.blt b 2000000 with
    | false=>
      have:¬ b < 2000000:=fun hb=>by rw [show Nat.blt b 2000000=true by simpa [Nat.blt_eq] using hb] at h;cases h
      simp only [ZaH,za]
      rw [if_neg (by omega)]
    | true=>
      have hb:b < 2000000:=by simpa [Nat.blt_eq] using h
      simp only [cond_true,za]
      by_cases e:b=j
      · subst e
        rw [if_pos rfl,if_pos ⟨Nat.le_refl _,hb⟩];simp
      · rw [if_neg e,Yd r (b+1) j]
        by_cases h2:b≤j∧j < 2000000
        · obtain ⟨k,hk⟩:∃ k,j - b=k+1:=⟨j - b - 1,by omega⟩
          rw [if_pos (by omega),if_pos h2,hk,show j - (b+1)=k by omega,List.getElem?_cons_succ]
        · rw [if_neg (by omega),if_neg h2]
theorem wz (Ls:List (List Int)) (j:Nat):za (xA Ls) j=if j=qI then some .dead else if zy≤j∧j < 2000000 then (Ls[j - zy]?).map (fun L=>Zaf.tip 1 L.length) else none:=by
  simp only [xA,za]
  by_cases e:qI=j
  · rw [if_pos e,if_pos e.symm]
  · rw [if_neg e,if_neg (fun h=>e h.symm),Yd]
theorem wU {α:Type}:∀ (a b:List (Nat×α)) (j:Nat),za (a++b) j=(za a j).or (za b j)
  | [],b,j=>by simp [za]
  | (k,v)::a,b,j=>by
    simp only [List.cons_append,za]
    by_cases e:k=j
    · rw [if_pos e,if_pos e];rfl
    · rw [if_neg e,if_neg e];exact wU a b j
theorem KU:∀ l:List (Nat×Zaf),kh l++kM l=l
  | []=>rfl
  | (k,o)::r=>by
    simp only [kh,kM]
    split
    · rfl
    · rw [List.cons_append,KU r]
theorem yo (l:List (Nat×Zaf)) (j:Nat):za l j=(za (kh l) j).or (za (kM l) j):=by
  conv=>lhs;rw [←KU l]
  exact wU _ _ _
theorem ZZ:∀ {l:List (Nat×Zaf)},vp l=true→∀ {j:Nat} {o:Zaf},za (kh l) j=some o→j < qI∨2000000≤j
  | [],h,j,o,e=>by cases e
  | (k,v)::r,h,j,o,e=>by
    simp only [vp,kh] at h e
    split at h
    · rename_i hk;rw [hk] at e;cases e
    · rename_i hk
      rw [hk] at e
      simp only [Bool.and_eq_true,Bool.or_eq_true] at h
      simp only [za] at e
      split at e
      · rename_i ek
        subst ek
        rcases h.1 with h1 | h1
        · exact .inl (by simpa [Nat.blt_eq] using h1)
        · exact .inr (Nat.le_of_ble_eq_true h1)
      · exact ZZ h.2 e
structure NestH (heap:List (Nat×Zaf)) (P:Nat) (Ls:List (List Int)):Prop where
  obj:za heap P=some (.rows 1 (qi zy Ls))
  tail:kM heap=xA Ls
  out:vp heap=true
theorem NestH.tip {heap:List (Nat×Zaf)} {P:Nat} {Ls:List (List Int)} (h:NestH heap P Ls) {k:Nat} {L:List Int} (hL:Ls[k]?=some L) (hk:k < 1000000):za heap (zy+k)=some (.tip 1 L.length):=by
  rw [yo]
  cases e:za (kh heap) (zy+k) with
  | some o=>have:=ZZ h.out e;simp only [zy,qI] at this;omega
  | none=>
    rw [Option.none_or,h.tail,wz,if_neg (by simp only [zy,qI];omega),if_pos (by simp only [zy];omega),show zy+k - zy=k by omega,hL];rfl
theorem Ye:∀ (Ls:List (List Int)) (b:Nat) (p:Nat×Zaf),p∈kL b Ls→∃ (k:Nat) (L:List Int),Ls[k]?=some L∧p=(b+k,.tip 1 L.length)∧b+k < 2000000
  | [],b,p,h=>by simp [kL] at h
  | L::r,b,p,h=>by
    simp only [kL] at h
    cases hb:Nat.blt b 2000000 with
    | false=>rw [hb] at h;simp at h
    | true=>
      rw [hb,cond_true] at h
      rcases List.mem_cons.1 h with h | h
      · exact ⟨0,L,rfl,h,by simpa [Nat.blt_eq] using hb⟩
      · obtain ⟨k,M,h1,h2,h3⟩:=Ye r (b+1) p h
        exact ⟨k+1,M,by simpa using h1,by rw [h2,show b+1+k=b+(k+1) by omega],by omega⟩
theorem zdR {heap:List (Nat×Zaf)} {Ls:List (List Int)} (ht:kM heap=xA Ls) (ho:vp heap=true):∀ p∈xA Ls,za heap p.1=some p.2∧p.1 < 2000000∧∀ m,zM m p.2:=by
  intro p hp
  have hnone:∀ j,qI≤j→j < 2000000→za (kh heap) j=none:=fun j h1 h2=>by
    cases e:za (kh heap) j with
    | none=>rfl
    | some o=>have:=ZZ ho e;omega
  rcases List.mem_cons.1 hp with rfl | hp
  · refine ⟨?_,by simp [qI],fun m=>trivial⟩
    rw [yo,hnone _ (Nat.le_refl _) (by simp [qI]),Option.none_or,ht,wz,if_pos rfl]
  · obtain ⟨k,L,h1,rfl,h3⟩:=Ye _ _ _ hp
    refine ⟨?_,h3,fun m=>trivial⟩
    simp only
    rw [yo,hnone _ (by simp only [qI,zy];omega) h3,Option.none_or,ht,wz,if_neg (by simp only [qI,zy];omega),if_pos ⟨by omega,h3⟩,show zy+k - zy=k by omega,h1]
    rfl
theorem zfv {env env':List (Nat×AV)} {heap heap':List (Nat×Zaf)} {n:Nat} (he:∀ t x,za env' t=some x→za env t=some x) (h:∀ j o,za heap' j=some o→za heap j=some o):Weak ⟨env,heap,n⟩ ⟨env',heap',n⟩:=by
  intro C nt g a w R
  obtain ⟨RE,R⟩:=R
  simp only at RE R
  have E:Evo g (za heap) (· < n) w g (za heap') (· < n) w:={Evo.refl g (za heap) (· < n) w with
    rho:=fun i b hb _ _ _ _=>.inl hb
    rho0:=fun i hb _ _ _ _=>.inl hb
    rows:=fun i _ s r h1=>⟨r,h i _ h1,rfl⟩
    tips:=fun i _ s l h1=>⟨l,h i _ h1,Nat.le_refl _⟩
    maps:=fun i _ es h1=>⟨es,h i _ h1⟩
    lps:=fun i _ ll RR s pe h1=>⟨s,pe,h i _ h1⟩}
  refine ⟨g,⟨⟨RE.size,RE.defers,fun t x hx=>(RE.slot t x (he t x hx)).mono E⟩,⟨R.inj,R.lt,fun i o h1=>R.key i o (h i o h1),fun i b o h1 h2=>(R.obj i b o h1 (h i o h2)).keep E rfl rfl,fun i s l h1 h2=>R.tip0 i s l (h i _ h1) h2,R.zlt,R.fix.evo E⟩⟩,fun g0 st0 w0 hm E0=>E0.trans E⟩
theorem zdS {env:List (Nat×AV)} {heap:List (Nat×Zaf)} {next:Nat} (P n:Nat) (hP:za heap P=some (.rows 1 (List.replicate n [.nil]))) (hn:next≤qI) :
    Weak ⟨env,heap,next⟩ ⟨env,zj heap P (.rows 1 (qi zy (List.replicate n [])))++xA (List.replicate n []),2000000⟩:=by
  intro C nt g a w R
  obtain ⟨RE,R⟩:=R
  simp only at RE R
  have hPn:P < next:=R.key _ _ hP
  have hmk:qI=999999:=rfl
  have hnb:zy=1000000:=rfl
  have hg:∀ j o,za (zj heap P (.rows 1 (qi zy (List.replicate n [])))++xA (List.replicate n [])) j=some o →
      (j=P∧o=.rows 1 (qi zy (List.replicate n [])))∨(j≠P∧j < next∧za heap j=some o)∨(j=qI∧o=.dead)∨(zy≤j∧j < 2000000∧o=.tip 1 0):=fun j o h=>by
    rw [wU,zo] at h
    by_cases e:P=j
    · rw [if_pos e] at h;cases h;exact .inl ⟨e.symm,rfl⟩
    · rw [if_neg e] at h
      cases h2:za heap j with
      | some o'=>rw [h2,Option.some_or] at h;cases h;exact .inr (.inl ⟨fun e2=>e e2.symm,R.key _ _ h2,rfl⟩)
      | none=>
        rw [h2,Option.none_or,wz] at h
        split at h
        · rename_i e3;cases h;exact .inr (.inr (.inl ⟨e3,rfl⟩))
        · split at h
          · rename_i e3
            rw [List.getElem?_replicate] at h
            split at h
            · cases h;exact .inr (.inr (.inr ⟨e3.1,e3.2,rfl⟩))
            · cases h
          · cases h
  have hold:∀ j o,j < next→j≠P→za (zj heap P (.rows 1 (qi zy (List.replicate n [])))++xA (List.replicate n [])) j=some o→za heap j=some o:=fun j o h1 h2 h3=>by
    rcases hg j o h3 with ⟨e,_⟩ | ⟨_,_,e⟩ | ⟨e,_⟩ | ⟨e,_⟩
    · exact absurd e h2
    · exact e
    · omega
    · omega
  have E:Evo g (za heap) (· < next) w g (za (zj heap P (.rows 1 (qi zy (List.replicate n [])))++xA (List.replicate n []))) (· < 2000000) w:={Evo.refl g (za heap) (· < next) w with
    next:=fun i hi=>by have hi:i < next:=hi;show i < 2000000;omega
    rho:=fun i b hb _ _ _ _=>.inl hb
    rho0:=fun i hb _ _ _ _=>.inl hb
    rows:=fun i hi s r h1=>by
      rcases hg i _ h1 with ⟨e1,e2⟩ | ⟨_,_,e2⟩ | ⟨_,e2⟩ | ⟨_,_,e2⟩
      · subst e1;cases e2;exact ⟨_,hP,by rw [Yb];simp⟩
      · exact ⟨r,e2,rfl⟩
      · cases e2
      · cases e2
    tips:=fun i hi s l h1=>by
      have hi:i < next:=hi
      rcases hg i _ h1 with ⟨_,e2⟩ | ⟨_,_,e2⟩ | ⟨_,e2⟩ | ⟨e1,_,_⟩
      · cases e2
      · exact ⟨l,e2,Nat.le_refl _⟩
      · cases e2
      · omega
    maps:=fun i _ es h1=>by
      rcases hg i _ h1 with ⟨_,e2⟩ | ⟨_,_,e2⟩ | ⟨_,e2⟩ | ⟨_,_,e2⟩
      · cases e2
      · exact ⟨es,e2⟩
      · cases e2
      · cases e2
    lps:=fun i _ ll RR s pe h1=>by
      rcases hg i _ h1 with ⟨_,e2⟩ | ⟨_,_,e2⟩ | ⟨_,e2⟩ | ⟨_,_,e2⟩
      · cases e2
      · exact ⟨s,pe,e2⟩
      · cases e2
      · cases e2}
  refine ⟨g,⟨⟨RE.size,RE.defers,fun t x hx=>(RE.slot t x hx).mono E⟩,⟨R.inj,fun i b h1=>⟨(R.lt i b h1).1,E.next _ (R.lt i b h1).2⟩,fun i o h1 => ?_,fun i b o h1 h2 => ?_,fun i s l h1 h2 => ?_,R.zlt,R.fix.evo E⟩⟩,fun g0 st0 w0 hm E0=>E0.trans E⟩
  · show i < 2000000
    rcases hg i o h1 with ⟨e1,_⟩ | ⟨_,e1,_⟩ | ⟨e1,_⟩ | ⟨_,e1,_⟩<;>omega
  · rcases hg i o h2 with ⟨e1,e2⟩ | ⟨_,_,e2⟩ | ⟨e1,_⟩ | ⟨e1,_,_⟩
    · subst e1 e2
      have hro:=R.obj _ b _ h1 hP
      simp only [RObj] at hro ⊢
      obtain ⟨a1,c,e,a2,a3,a4⟩:=hro
      refine ⟨a1,c,e,a2,fun i r hi => ?_,fun i r j x hi hj => ?_⟩
      · rw [yn] at hi
        obtain ⟨L,_,rfl⟩:=Option.map_eq_some_iff.1 hi
        rfl
      · rw [yn] at hi
        obtain ⟨L,hL,rfl⟩:=Option.map_eq_some_iff.1 hi
        rw [List.getElem?_replicate] at hL
        split at hL
        · rename_i hin
          cases hL
          have hj0:j=0:=by
            by_cases hb:zy+i < 2000000
            · rw [xO hb] at hj
              cases j with
              | zero=>rfl
              | succ j=>simp at hj
            · rw [vX hb] at hj
              cases j with
              | zero=>rfl
              | succ j=>simp at hj
          subst hj0
          obtain ⟨cv,b1,b2,b3⟩:=a4 i [.nil] 0 .nil (by rw [List.getElem?_replicate,if_pos hin]) rfl
          refine ⟨cv,b1,b2,?_⟩
          rw [xg b3]
          by_cases hb:zy+i < 2000000
          · rw [xO hb] at hj
            simp only [List.getElem?_cons_zero,Option.some.injEq] at hj
            subst hj
            refine .Zas _ _ _ .nil hb fun sz len hg2 => ?_
            have:sz=1∧len=0:=by
              rcases hg _ _ hg2 with ⟨e1,_⟩ | ⟨_,e1,_⟩ | ⟨e1,_⟩ | ⟨_,_,e2⟩
              · omega
              · omega
              · omega
              · cases e2;exact ⟨rfl,rfl⟩
            obtain ⟨rfl,rfl⟩:=this
            refine ⟨Nat.le_refl _,fun i row hi=>by simp at hi,fun _=>.inl ⟨?_,rfl⟩⟩
            cases hr:g.ρ (zy+i) with
            | none=>rfl
            | some bb=>
              have h5:zy+i < next:=(R.lt _ _ hr).2
              omega
          · rw [vX hb] at hj
            simp only [List.getElem?_cons_zero,Option.some.injEq] at hj
            subst hj
            exact .imm _ _ .nil
        · cases hL
    · exact (R.obj i b o h1 e2).keep E rfl rfl
    · have h5:i < next:=(R.lt i b h1).2
      omega
    · have h5:i < next:=(R.lt i b h1).2
      omega
  · rcases hg i _ h1 with ⟨_,e2⟩ | ⟨_,_,e2⟩ | ⟨_,e2⟩ | ⟨_,_,e2⟩
    · cases e2
    · exact R.tip0 i s l e2 h2
    · cases e2
    · cases e2;rfl
theorem KW:∀ (Ls:List (List Int)) (b:Nat),RowsLe (qi b Ls) (zb (qE zc) Ls)
  | [],_=>.nil
  | L::r,b=>by
    refine .cons ?_ (KW r (b+1))
    by_cases hb:b < 2000000
    · rw [xO hb];exact .cons (.tip _ _) .nil
    · rw [vX hb];exact .cons (.refl _) .nil
end Go.Proofs.YtlpmnmbebkdocaaGreatDoor
