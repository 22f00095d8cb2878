/-
  The abstract machine: code as a demand that simp can work off: what is decided is run; what is not stands still.
  The abstract machine: counted loops, and small facts about numbers.
  The abstract machine: loops whose states are told by the slots that turn; lists.
  Denotations: small facts that printed proofs use.
  Denotations: rows of cells; what the printed proofs use.
  The abstract machine: a contract over a small heap serves in every heap that holds such objects under other names.
  Calls by contracts over small heaps.
  Regions run by the kernel: what is not decided by reckoning (tests, lengths, elements, answers of calls) is told ahead ('Orc'), and what is told is asked for as a list of facts.
  Forgetting, and the end of a function, by the kernel.
-/
import Derived.Test.YtjkljacdbljkpaaGreatDoorCD03
namespace Go.Proofs.YtjkljacdbljkpaaGreatDoor
open Go.RowKit
set_option linter.unusedSimpArgs false
set_option linter.unusedVariables false
section
def kb (dst:Option Nat) (env:List (Nat×AV)) (K:St→Prop):AV→List (Nat×AObj)→Nat→Prop:=fun r heap' next'=>K (St.put {env:=env,heap:=heap',next:=next'+1} dst r)
def z6 (dst:Option Nat) (K:St→Prop) (st:St):Option (AV×List (Nat×AObj))→Prop
  | some (r,ups)=>K (st.after dst r ups)
  | none=>False
def Wz (C:CtxY) (dst:Option Nat) (K:St→Prop) (st:St) (args:List AV):AV→Prop
  | .func f first caps=>ACall C f (first++args++caps) st.heap st.next (kb dst st.env K)
  | .yld l id=>C.Y l id args st.heap st.next (kb dst st.env K)
  | _=>False
def evOp (C:CtxY) (dst:Option Nat) (K:St→Prop) (st:St):AOp→Prop
  | .call f args=>Wz C dst K st (args.map (zd st.env)) (zd st.env f)
  | op=>z6 dst K st (evalOp op (zd st.env) (za st.heap) st.next)
def evG (C:CtxY) (dst:Option Nat) (op:AOp) (K:St→Prop) (st:St):Bool→Prop
  | true=>evOp C dst K st op
  | false=>K (st.after dst .undef [])
def Jf (C:CtxY) (dst:Option Nat) (op:AOp) (K:St→Prop) (st:St) (want:Bool):AV→Prop
  | .imm (.bool b)=>evG C dst op K st (b == want)
  | .undef=>evG C dst op K st false
  | _=>False
def Jg (C:CtxY) (it:AItem) (K:St→Prop) (st:St):Prop:=match it.guard with
  | none=>evOp C it.dst K st it.op
  | some (t,want)=>Jf C it.dst it.op K st want ((za st.env t).getD .top)
theorem zb3 (C:CtxY) (dst:Option Nat) (op:AOp) (g:Option (Nat×Bool)) (K:St→Prop) (st:St) (hg:zV st.env g=some true):wM C ⟨dst,op,g⟩ st K=evOp C dst K st op:=by
  unfold wM
  rw [hg]
  cases op
  case call f args=>
    simp only [evOp]
    cases zd st.env f<;>rfl
  all_goals
    simp only [evOp]
    generalize evalOp _ _ _ _=r
    rcases r with _ | ⟨r,ups⟩<;>rfl
theorem zhq (C:CtxY) (it:AItem) (K:St→Prop) (st:St) (h:Jg C it K st):wM C it st K:=by
  obtain ⟨dst,op,g⟩:=it
  unfold Jg at h
  split at h
  · rename_i hg
    simp only at hg
    subst hg
    rw [zb3 C dst op none K st rfl]
    exact h
  · rename_i t want hg
    simp only at hg
    subst hg
    unfold Jf at h
    split at h
    · rename_i b hb
      cases hbw:(b == want) with
      | true=>
        rw [hbw] at h
        rw [zb3 C dst op _ K st (by simp only [zV,hb,hbw])]
        exact h
      | false=>
        rw [hbw] at h
        unfold wM
        simp only [zV,hb,hbw]
        exact h
    · rename_i hb
      unfold wM
      simp only [zV,hb]
      exact h
    · exact h.elim
def evl (C:CtxY):List AItem→(St→Prop)→St→Prop
  | [],K,st=>K st
  | it::rest,K,st=>Jg C it (evl C rest K) st
theorem kc (C:CtxY):∀ (l:List AItem) (K:St→Prop) (st:St),evl C l K st→evs C l K st
  | [],K,st,h=>h
  | it::rest,K,st,h=>by
    have:evl C rest K=evl C rest K:=rfl
    have h1:=zhq C it _ st h
    simp only [evs]
    unfold wM at h1 ⊢
    split
    · rename_i hg;rw [hg] at h1;exact kc C rest K _ h1
    · rename_i hg
      rw [hg] at h1
      simp only at h1
      split
      · rename_i f args hop
        rw [hop] at h1
        simp only at h1
        split
        · rename_i hf
          rw [hf] at h1
          exact ACall.mono (fun r h n hk=>kc C rest K _ hk) h1
        · rename_i l id hf
          rw [hf] at h1
          exact C.ymono _ _ _ _ _ _ _ (fun r h n hk=>kc C rest K _ hk) h1
        · rename_i hf hf2
          split at h1
          · rename_i f' first caps hff;exact absurd hff (hf _ _ _)
          · rename_i l id hff;exact absurd hff (hf2 _ _)
          · exact h1
      · rename_i hop
        split at h1
        · rename_i f args h3;exact absurd h3 (hop _ _)
        · split
          · rename_i r ups hev;rw [hev] at h1;exact kc C rest K _ h1
          · rename_i hev;rw [hev] at h1;exact h1
    · rename_i hg;rw [hg] at h1;exact h1
def wpC (b:AV) (x y:St→Prop) (st:St):Prop:=match b with
  | .imm (.bool true)=>x st
  | .imm (.bool false)=>y st
  | _=>False
def kD (ks:Option (List Nat)) (K:Exit→St→Prop):St→Prop:=fun st=>K .normal (st.keep ks)
def wpD (C:CtxY) (b:Bool) (ord:List Nat) (items:List AItem) (K:St→Prop) (st:St):Prop:=match b with
  | true=>evr C K items st
  | false=>evd C ord K items 0 [] [] st
def wpx (C:CtxY) (nt:Fr):ACode→(Exit→St→Prop)→St→Prop
  | .skip,K,st=>K .normal st
  | .region false _ items ks,K,st=>evl C items (kD ks K) st
  | .region true ord items ks,K,st=>wpD C (J0 items) ord items (kD ks K) st
  | .seq x y,K,st=>wpx C nt x (wN (wpx C nt y K) K) st
  | .cond c x y,K,st=>wpC (zd st.env c) (wpx C nt x K) (wpx C nt y K) st
  | .block id x,K,st=>wpx C nt x (xn id K) st
  | .loop x,K,st=>awp C nt (.loop x) K st
  | .scope x,K,st=>C.ro=none∧wpx C nt x (ZJ K) st
  | .range f ps x y,K,st=>awp C nt (.range f ps x y) K st
  | .exit id,K,st=>K (.exit id) st
  | .ret,K,st=>K .ret st
theorem wD {C:CtxY} {nt:Fr}:∀ {c:ACode} {K:Exit→St→Prop} {st:St},wpx C nt c K st→awp C nt c K st
  | .skip,K,st,h=>Qg h
  | .region false _ items ks,K,st,h=>Wt (kc C items _ st h)
  | .region true ord items ks,K,st,h=>by
    simp only [wpx,wpD] at h
    split at h
    · exact zhp h
    · exact zho h
  | .seq x y,K,st,h=>by
    have h1:awp C nt x (wN (wpx C nt y K) K) st:=wD (c:=x) h
    refine qH (qO (fun e st' hk => ?_) h1)
    cases e with
    | normal=>exact wD (c:=y) hk
    | _=>exact hk
  | .cond c x y,K,st,h=>by
    simp only [wpx,wpC] at h
    split at h
    · rename_i hb;exact j7 true hb (fun _=>wD h) (fun h=>by cases h)
    · rename_i hb;exact j7 false hb (fun h=>by cases h) (fun _=>wD h)
    · exact h.elim
  | .block id x,K,st,h=>Zf (wD (c:=x) h)
  | .loop x,K,st,h=>h
  | .scope x,K,st,h=>Yq h.1 (wD (c:=x) h.2)
  | .range f ps x y,K,st,h=>h
  | .exit id,K,st,h=>XN h
  | .ret,K,st,h=>VA h
section
variable {C:CtxY} {nt:Fr} {env:List (Nat×AV)} {heap:List (Nat×AObj)} {next:Nat} {dst:Option Nat} {K:St→Prop} {KE:Exit→St→Prop} {st:St}
@[simp] theorem zlM:wpx C nt .skip KE st=KE .normal st:=rfl
@[simp] theorem zj8 (o:List Nat) (items:List AItem) (ks:Option (List Nat)):wpx C nt (.region false o items ks) KE st=evl C items (kD ks KE) st:=rfl
@[simp] theorem zlN (o:List Nat) (items:List AItem) (ks:Option (List Nat)):wpx C nt (.region true o items ks) KE st=wpD C (J0 items) o items (kD ks KE) st:=rfl
@[simp] theorem zlO (o:List Nat) (items:List AItem):wpD C true o items K st=evr C K items st:=rfl
@[simp] theorem zlb (o:List Nat) (items:List AItem):wpD C false o items K st=evd C o K items 0 [] [] st:=rfl
@[simp] theorem zmv (x y:ACode):wpx C nt (.seq x y) KE st=wpx C nt x (wN (wpx C nt y KE) KE) st:=rfl
@[simp] theorem zlP (c:Opd) (x y:ACode):wpx C nt (.cond c x y) KE st=wpC (zd st.env c) (wpx C nt x KE) (wpx C nt y KE) st:=rfl
@[simp] theorem zlc (id:Nat) (x:ACode):wpx C nt (.block id x) KE st=wpx C nt x (xn id KE) st:=rfl
@[simp] theorem zlQ (id:Nat):wpx C nt (.exit id) KE st=KE (.exit id) st:=rfl
@[simp] theorem zmw:wpx C nt .ret KE st=KE .ret st:=rfl
@[simp] theorem zlR (x y:St→Prop):wpC (.imm (.bool true)) x y st=x st:=rfl
@[simp] theorem zld (x y:St→Prop):wpC (.imm (.bool false)) x y st=y st:=rfl
@[simp] theorem zj0 (n:St→Prop):wN n KE .normal st=n st:=rfl
@[simp] theorem zle (n:St→Prop) (id:Nat):wN n KE (.exit id) st=KE (.exit id) st:=rfl
@[simp] theorem zlS (n:St→Prop):wN n KE .ret st=KE .ret st:=rfl
@[simp] theorem zhr (id:Nat):xn id KE .normal st=KE .normal st:=rfl
@[simp] theorem zj1 (id:Nat):xn id KE .ret st=KE .ret st:=rfl
@[simp] theorem zab (id id':Nat):xn id KE (.exit id') st=if id'=id then KE .normal st else KE (.exit id') st:=rfl
@[simp] theorem zhs:ZJ KE .normal st=KE .normal st:=rfl
@[simp] theorem zil (id:Nat):ZJ KE (.exit id) st=KE (.exit id) st:=rfl
@[simp] theorem zj2:ZJ KE .ret st=KE .ret st:=rfl
@[simp] theorem Yu (ks:List Nat):kD (some ks) KE ⟨env,heap,next⟩=KE .normal ⟨qB ks env,heap,next⟩:=rfl
@[simp] theorem zlf:kD none KE st=KE .normal st:=rfl
@[simp] theorem zj3 (ks:List Nat):qB ks []=[]:=rfl
@[simp] theorem zim (ks:List Nat) (k:Nat) (v:AV) (r:List (Nat×AV)):qB ks ((k,v)::r)=bif ks.contains k then (k,v)::qB ks r else qB ks r:=by
  simp only [qB,List.filter_cons];cases ks.contains k<;>rfl
@[simp] theorem zht:evl C [] K st=K st:=rfl
@[simp] theorem zac (it:AItem) (r:List AItem):evl C (it::r) K st=Jg C it (evl C r K) st:=rfl
@[simp] theorem Yv (op:AOp):Jg C ⟨dst,op,none⟩ K st=evOp C dst K st op:=rfl
@[simp] theorem zlg (op:AOp) (t:Nat) (want:Bool):Jg C ⟨dst,op,some (t,want)⟩ K st=Jf C dst op K st want ((za st.env t).getD .top):=rfl
@[simp] theorem zj9 (op:AOp) (want:Bool):Jf C dst op K st want .undef=K (st.after dst .undef []):=rfl
@[simp] theorem zlh (op:AOp) (b:Bool):Jf C dst op K st true (.imm (.bool b))=evG C dst op K st b:=by simp [Jf]
@[simp] theorem zka (op:AOp) (b:Bool):Jf C dst op K st false (.imm (.bool b))=evG C dst op K st (!b):=by cases b<;>rfl
@[simp] theorem zlT (op:AOp):evG C dst op K st true=evOp C dst K st op:=rfl
@[simp] theorem zli (op:AOp):evG C dst op K st false=K (st.after dst .undef []):=rfl
@[simp] theorem WA (r:AV) (ups:List (Nat×AObj)):z6 dst K st (some (r,ups))=K (st.after dst r ups):=rfl
@[simp] theorem zkb:z6 dst K st none=False:=rfl
@[simp] theorem zeh (f:Opd) (args:List Opd):evOp C dst K ⟨env,heap,next⟩ (.call f args)=Wz C dst K ⟨env,heap,next⟩ (args.map (zd env)) (zd env f):=rfl
@[simp] theorem zbD (args:List AV) (f:Nat) (first caps:List AV):Wz C dst K ⟨env,heap,next⟩ args (.func f first caps)=ACall C f (first++args++caps) heap next (kb dst env K):=rfl
@[simp] theorem zad (d:Nat) (r:AV) (heap':List (Nat×AObj)) (next':Nat):kb (some d) env K r heap' next'=K ⟨zl env d r,heap',next'+1⟩:=rfl
@[simp] theorem zin (r:AV) (heap':List (Nat×AObj)) (next':Nat):kb none env K r heap' next'=K ⟨env,heap',next'+1⟩:=rfl
@[simp] theorem WB (d:Nat) (r:AV) (ups:List (Nat×AObj)):St.after ⟨env,heap,next⟩ (some d) r ups=⟨zl env d r,zG ups heap,next+1⟩:=rfl
@[simp] theorem zkc (r:AV) (ups:List (Nat×AObj)):St.after ⟨env,heap,next⟩ none r ups=⟨env,zG ups heap,next+1⟩:=rfl
@[simp] theorem Jh:zG [] heap=heap:=rfl
@[simp] theorem Kb (k:Nat) (o:AObj) (r:List (Nat×AObj)):zG ((k,o)::r) heap=zs (zG r heap) k o:=rfl
@[simp] theorem zlj {α:Type} (i:Nat) (v:α):zs [] i v=[(i,v)]:=rfl
@[simp] theorem zkd {α:Type} (k i:Nat) (v u:α) (r:List (Nat×α)):zs ((k,v)::r) i u=if k=i then (i,u)::r else if k=999999 then (i,u)::(k,v)::r else (k,v)::zs r i u:=rfl
@[simp] theorem zei {α:Type} (i:Nat):za ([]:List (Nat×α)) i=none:=rfl
@[simp] theorem WC {α:Type} (k i:Nat) (v:α) (r:List (Nat×α)):za ((k,v)::r) i=if k=i then some v else za r i:=rfl
@[simp] theorem Yw {α:Type} (i:Nat) (v:α):zl [] i v=[(i,v)]:=rfl
@[simp] theorem WD {α:Type} (k i:Nat) (v u:α) (r:List (Nat×α)):zl ((k,v)::r) i u=if k=i then (i,u)::r else (k,v)::zl r i u:=rfl
@[simp] theorem zhu (n:Nat):zd env (.t n)=(za env n).getD .top:=rfl
@[simp] theorem zmx (x:AV):zd env (.c x)=x:=rfl
@[simp] theorem zke (i:Nat):q7 i []=[]:=rfl
@[simp] theorem zj4 (i:Nat) (x:AV) (xs:List AV):q7 i (x::xs)=(i,x)::q7 (i+1) xs:=rfl
@[simp] theorem zlU {α β:Type} (f:α→Option β):mapO f []=some []:=rfl
@[simp] theorem zlk {α β:Type} (f:α→Option β) (a:α) (r:List α):mapO f (a::r)=match f a with
    | some b=>match mapO f r with
      | some bs=>some (b::bs)
      | none=>none
    | none=>none:=rfl
def Ji (KA:AV→List (Nat×AObj)→Nat→Prop) (heap:List (Nat×AObj)) (next:Nat):Option AV→Prop
  | some r=>KA r heap next
  | none=>False
def WE (rs:List ARes) (KA:AV→List (Nat×AObj)→Nat→Prop):Exit→St→Prop
  | .ret,st | .normal,st=>Ji KA st.heap st.next (jl rs st)
  | _,_=>False
theorem ACall.run {C:Ctx} {f:Nat} {F:AFun} (hF:qf C f=some F.erase) {args:List AV} {KA:AV→List (Nat×AObj)→Nat→Prop} (hn:args.length≤F.nt)
    (h:∀ B,wpx C.plain ⟨F.nt,B⟩ F.body (WE F.results KA) {env:=q7 0 args,heap:=heap,next:=next}):ACall C f args heap next KA:=ACall.enter hF hn (fun B=>qO (fun e st hk=>by
      have key:∀ {o:Option AV},Ji KA st.heap st.next o→∃ r,o=some r∧KA r st.heap st.next:=fun {o} ho=>by
        cases o with
        | none=>exact ho.elim
        | some r=>exact ⟨r,rfl,ho⟩
      cases e with
      | ret=>exact ⟨.inl rfl,key hk⟩
      | normal=>exact ⟨.inr rfl,key hk⟩
      | _=>exact hk.elim) (wD (h B)))
def VE (d:Nat) (r:IV):AV→List (Nat×AObj)→Nat→Prop:=fun x heap _=>zF (za heap) d x=some r
@[simp] theorem zmy (d:Nat) (r:IV) (x:AV):VE d r x heap next=(zF (za heap) d x=some r):=rfl
theorem APure.run {C:Ctx} {f:Nat} {F:AFun} (hF:qf C f=some F.erase) {args:List IV} {r:IV} (d:Nat) (hn:args.length≤F.nt)
    (h:∀ B,wpx C.plain ⟨F.nt,B⟩ F.body (WE F.results (VE d r)) {env:=q7 0 (args.map .imm),heap:=[],next:=0}):APure C f args r:=APure.of (d:=d) (ACall.run hF (by simpa using hn) h)
variable {KA:AV→List (Nat×AObj)→Nat→Prop}
@[simp] theorem zll (rs:List ARes):WE rs KA .ret ⟨env,heap,next⟩=Ji KA heap next (jl rs ⟨env,heap,next⟩):=rfl
@[simp] theorem zio (rs:List ARes):WE rs KA .normal ⟨env,heap,next⟩=Ji KA heap next (jl rs ⟨env,heap,next⟩):=rfl
@[simp] theorem zlm (r:AV):Ji KA heap next (some r)=KA r heap next:=rfl
@[simp] theorem zln:Ji KA heap next none=False:=rfl
@[simp] theorem zlo (r:ARes):jl [r] st=wc st r:=rfl
@[simp] theorem zlp:jl [] st=some (.tuple []):=rfl
@[simp] theorem zlq (r s:ARes) (l:List ARes):jl (r::s::l) st=match mapO (wc st) (r::s::l) with
    | some xs=>some (.tuple xs)
    | none=>none:=rfl
@[simp] theorem zkf (t:Nat):wc ⟨env,heap,next⟩ (.tmp t)=za env t:=rfl
@[simp] theorem zj5 (t n:Nat) (ag:Bool):wc ⟨env,heap,next⟩ (.cell t ag n)=match evalOp (.load ag n (.t t)) (zd env) (za heap) 0 with
    | some (r,_)=>some r
    | none=>none:=rfl
@[simp] theorem zfF (x:Opd):evOp C dst K ⟨env,heap,next⟩ (.mov x)=z6 dst K ⟨env,heap,next⟩ (evalOp (.mov x) (zd env) (za heap) next):=rfl
@[simp] theorem zlr (c a b:Opd):evOp C dst K ⟨env,heap,next⟩ (.pick c a b)=z6 dst K ⟨env,heap,next⟩ (evalOp (.pick c a b) (zd env) (za heap) next):=rfl
@[simp] theorem zkg (sz:Nat) (rows:List (List AV)):evOp C dst K ⟨env,heap,next⟩ (.alloc sz rows)=z6 dst K ⟨env,heap,next⟩ (evalOp (.alloc sz rows) (zd env) (za heap) next):=rfl
@[simp] theorem zlV (sz:Nat) (x:Opd):evOp C dst K ⟨env,heap,next⟩ (.box sz x)=z6 dst K ⟨env,heap,next⟩ (evalOp (.box sz x) (zd env) (za heap) next):=rfl
@[simp] theorem zkh (zero:List AV) (parts:List (Nat×Nat×Opd)):evOp C dst K ⟨env,heap,next⟩ (.build zero parts)=z6 dst K ⟨env,heap,next⟩ (evalOp (.build zero parts) (zd env) (za heap) next):=rfl
@[simp] theorem zj6 (sz:Nat) (zero:List AV) (len:Nat) (parts:List (Nat×Opd)):evOp C dst K ⟨env,heap,next⟩ (.bslice sz zero len parts)=z6 dst K ⟨env,heap,next⟩ (evalOp (.bslice sz zero len parts) (zd env) (za heap) next):=rfl
@[simp] theorem zls (agg:Bool) (n:Nat) (x:Opd):evOp C dst K ⟨env,heap,next⟩ (.load agg n x)=z6 dst K ⟨env,heap,next⟩ (evalOp (.load agg n x) (zd env) (za heap) next):=rfl
@[simp] theorem zki (n:Nat) (x v:Opd):evOp C dst K ⟨env,heap,next⟩ (.store n x v)=z6 dst K ⟨env,heap,next⟩ (evalOp (.store n x v) (zd env) (za heap) next):=rfl
@[simp] theorem zlW (off:Nat) (x:Opd):evOp C dst K ⟨env,heap,next⟩ (.fld off x)=z6 dst K ⟨env,heap,next⟩ (evalOp (.fld off x) (zd env) (za heap) next):=rfl
@[simp] theorem zlX (sz:Nat) (x i:Opd):evOp C dst K ⟨env,heap,next⟩ (.idx sz x i)=z6 dst K ⟨env,heap,next⟩ (evalOp (.idx sz x i) (zd env) (za heap) next):=rfl
@[simp] theorem zlu (len sz:Nat) (x i:Opd):evOp C dst K ⟨env,heap,next⟩ (.idxa len sz x i)=z6 dst K ⟨env,heap,next⟩ (evalOp (.idxa len sz x i) (zd env) (za heap) next):=rfl
@[simp] theorem zlY (op:BinOp) (x y:Opd):evOp C dst K ⟨env,heap,next⟩ (.bin op x y)=z6 dst K ⟨env,heap,next⟩ (evalOp (.bin op x y) (zd env) (za heap) next):=rfl
@[simp] theorem zlZ (neg:Bool) (x y:Opd):evOp C dst K ⟨env,heap,next⟩ (.eqb neg x y)=z6 dst K ⟨env,heap,next⟩ (evalOp (.eqb neg x y) (zd env) (za heap) next):=rfl
@[simp] theorem zl0 (neg:Bool) (ks:List Nat) (x y:Opd):evOp C dst K ⟨env,heap,next⟩ (.eqs neg ks x y)=z6 dst K ⟨env,heap,next⟩ (evalOp (.eqs neg ks x y) (zd env) (za heap) next):=rfl
@[simp] theorem zkj (neg:Bool) (x y:Opd):evOp C dst K ⟨env,heap,next⟩ (.eqnil neg x y)=z6 dst K ⟨env,heap,next⟩ (evalOp (.eqnil neg x y) (zd env) (za heap) next):=rfl
@[simp] theorem zl1 (x:Opd):evOp C dst K ⟨env,heap,next⟩ (.not x)=z6 dst K ⟨env,heap,next⟩ (evalOp (.not x) (zd env) (za heap) next):=rfl
@[simp] theorem zl2 (x:Opd):evOp C dst K ⟨env,heap,next⟩ (.neg x)=z6 dst K ⟨env,heap,next⟩ (evalOp (.neg x) (zd env) (za heap) next):=rfl
@[simp] theorem zlv (k:IntKind) (x:Opd):evOp C dst K ⟨env,heap,next⟩ (.conv k x)=z6 dst K ⟨env,heap,next⟩ (evalOp (.conv k x) (zd env) (za heap) next):=rfl
@[simp] theorem zl3 (x:Opd):evOp C dst K ⟨env,heap,next⟩ (.len x)=z6 dst K ⟨env,heap,next⟩ (evalOp (.len x) (zd env) (za heap) next):=rfl
@[simp] theorem zlw (x:Opd):evOp C dst K ⟨env,heap,next⟩ (.lens x)=z6 dst K ⟨env,heap,next⟩ (evalOp (.lens x) (zd env) (za heap) next):=rfl
@[simp] theorem zlx (x:Opd):evOp C dst K ⟨env,heap,next⟩ (.lenm x)=z6 dst K ⟨env,heap,next⟩ (evalOp (.lenm x) (zd env) (za heap) next):=rfl
@[simp] theorem zmz (max:Bool) (x y:Opd):evOp C dst K ⟨env,heap,next⟩ (.mm max x y)=z6 dst K ⟨env,heap,next⟩ (evalOp (.mm max x y) (zd env) (za heap) next):=rfl
@[simp] theorem zl4 (sz by_:Nat) (s x:Opd):evOp C dst K ⟨env,heap,next⟩ (.app sz by_ s x)=z6 dst K ⟨env,heap,next⟩ (evalOp (.app sz by_ s x) (zd env) (za heap) next):=rfl
@[simp] theorem zl5 (x:Opd) (i:Nat):evOp C dst K ⟨env,heap,next⟩ (.ext x i)=z6 dst K ⟨env,heap,next⟩ (evalOp (.ext x i) (zd env) (za heap) next):=rfl
@[simp] theorem zl6 (f:Nat) (first caps:List Opd):evOp C dst K ⟨env,heap,next⟩ (.mkf f first caps)=z6 dst K ⟨env,heap,next⟩ (evalOp (.mkf f first caps) (zd env) (za heap) next):=rfl
@[simp] theorem zkk  : evOp C dst K ⟨env,heap,next⟩ (.mkmap)=z6 dst K ⟨env,heap,next⟩ (evalOp (.mkmap) (zd env) (za heap) next):=rfl
@[simp] theorem zly (str:Bool) (zero:AV) (ok:Bool) (m k:Opd):evOp C dst K ⟨env,heap,next⟩ (.look str zero ok m k)=z6 dst K ⟨env,heap,next⟩ (evalOp (.look str zero ok m k) (zd env) (za heap) next):=rfl
@[simp] theorem zl7 (str:Bool) (m k v:Opd):evOp C dst K ⟨env,heap,next⟩ (.upd str m k v)=z6 dst K ⟨env,heap,next⟩ (evalOp (.upd str m k v) (zd env) (za heap) next):=rfl
@[simp] theorem zl8 (sz by_:Nat) (zero:List AV) (n:Opd):evOp C dst K ⟨env,heap,next⟩ (.mks sz by_ zero n)=z6 dst K ⟨env,heap,next⟩ (evalOp (.mks sz by_ zero n) (zd env) (za heap) next):=rfl
@[simp] theorem zl9 (sz:Nat) (x:Opd) (lo hi:Option Opd):evOp C dst K ⟨env,heap,next⟩ (.slc sz x lo hi)=z6 dst K ⟨env,heap,next⟩ (evalOp (.slc sz x lo hi) (zd env) (za heap) next):=rfl
@[simp] theorem zma (x:Opd):evOp C dst K ⟨env,heap,next⟩ (.nck x)=z6 dst K ⟨env,heap,next⟩ (evalOp (.nck x) (zd env) (za heap) next):=rfl
@[simp] theorem zlz (sz:Nat) (d x:Opd):evOp C dst K ⟨env,heap,next⟩ (.copy sz d x)=z6 dst K ⟨env,heap,next⟩ (evalOp (.copy sz d x) (zd env) (za heap) next):=rfl
@[simp] theorem zmb (len sz:Nat) (x i:Opd):evOp C dst K ⟨env,heap,next⟩ (.ixa len sz x i)=z6 dst K ⟨env,heap,next⟩ (evalOp (.ixa len sz x i) (zd env) (za heap) next):=rfl
end
section
variable {C:CtxY} {nt:Fr} {env:List (Nat×AV)} {heap:List (Nat×AObj)} {next:Nat} {dst:Option Nat} {K:St→Prop} {KD:List Nat→AV→List (Nat×AObj)→Prop} {st:St}
@[simp] theorem zmA (ord:List Nat) (j:Nat) (W R:List (Nat×Nat)):evd C ord K [] j W R st=K st:=rfl
@[simp] theorem zae (ord:List Nat) (it:AItem) (r:List AItem) (j:Nat) (W R:List (Nat×Nat)):evd C ord K (it::r) j W R st=dIt C it (dNext ord j W R it.dst st (evd C ord K r)) st:=rfl
@[simp] theorem zmB:evr C K [] st=K st:=rfl
@[simp] theorem zmc (it:AItem) (r:List AItem):evr C K (it::r) st=dIt C it (Kn it.dst st (evr C K r)) st:=rfl
@[simp] theorem zaf (op:AOp):dIt C ⟨dst,op,none⟩ KD st=dOp C KD st op:=rfl
@[simp] theorem zmd (op:AOp) (t:Nat) (want:Bool):dIt C ⟨dst,op,some (t,want)⟩ KD st=dGV C op KD st want ((za st.env t).getD .top):=rfl
@[simp] theorem zlA (op:AOp) (want:Bool):dGV C op KD st want .undef=KD [] .undef []:=rfl
@[simp] theorem zme (op:AOp) (b:Bool):dGV C op KD st true (.imm (.bool b))=dG C op KD st b:=by simp [dGV]
@[simp] theorem zlB (op:AOp) (b:Bool):dGV C op KD st false (.imm (.bool b))=dG C op KD st (!b):=by cases b<;>rfl
@[simp] theorem zmC (op:AOp):dG C op KD st true=dOp C KD st op:=rfl
@[simp] theorem zmf (op:AOp):dG C op KD st false=KD [] .undef []:=rfl
@[simp] theorem zlC (rd:List Nat) (r:AV) (ups:List (Nat×AObj)):qn KD rd (some (r,ups))=KD rd r ups:=rfl
@[simp] theorem zlD (rd:List Nat):qn KD rd none=False:=rfl
@[simp] theorem zmg (ord:List Nat) (j:Nat) (W R:List (Nat×Nat)) (nx:Nat→List (Nat×Nat)→List (Nat×Nat)→St→Prop) (rd:List Nat) (r:AV) (ups:List (Nat×AObj)) :
    dNext ord j W R dst st nx rd r ups=(jR ord j W R (zT ups) rd=true∧nx (j+1) (qQ j (zT ups) W) (qQ j rd R) (st.after dst r ups)):=rfl
@[simp] theorem zlE (nx:St→Prop) (rd:List Nat) (r:AV):Kn dst st nx rd r []=nx (st.after dst r []):=by simp [Kn]
@[simp] theorem zmh (f:Opd) (args:List Opd):dOp C KD ⟨env,heap,next⟩ (.call f args)=Ko C KD heap (args.map (zd env)) (zd env f):=rfl
@[simp] theorem zkl (args:List AV) (f:Nat) (first caps:List AV):Ko C KD heap args (.func f first caps)=DCall C f (first++args++caps) heap KD:=rfl
@[simp] theorem zmD (x:Opd):dOp C KD ⟨env,heap,next⟩ (.mov x)=qn KD (zj (.mov x) (zd env)) (evalOp (.mov x) (zd env) (za heap) next):=rfl
@[simp] theorem zmi (c a b:Opd):dOp C KD ⟨env,heap,next⟩ (.pick c a b)=qn KD (zj (.pick c a b) (zd env)) (evalOp (.pick c a b) (zd env) (za heap) next):=rfl
@[simp] theorem zlF (sz:Nat) (rows:List (List AV)):dOp C KD ⟨env,heap,next⟩ (.alloc sz rows)=qn KD (zj (.alloc sz rows) (zd env)) (evalOp (.alloc sz rows) (zd env) (za heap) next):=rfl
@[simp] theorem zmE (sz:Nat) (x:Opd):dOp C KD ⟨env,heap,next⟩ (.box sz x)=qn KD (zj (.box sz x) (zd env)) (evalOp (.box sz x) (zd env) (za heap) next):=rfl
@[simp] theorem zlG (zero:List AV) (parts:List (Nat×Nat×Opd)):dOp C KD ⟨env,heap,next⟩ (.build zero parts)=qn KD (zj (.build zero parts) (zd env)) (evalOp (.build zero parts) (zd env) (za heap) next):=rfl
@[simp] theorem zkm (sz:Nat) (zero:List AV) (len:Nat) (parts:List (Nat×Opd)):dOp C KD ⟨env,heap,next⟩ (.bslice sz zero len parts)=qn KD (zj (.bslice sz zero len parts) (zd env)) (evalOp (.bslice sz zero len parts) (zd env) (za heap) next):=rfl
@[simp] theorem zmj (agg:Bool) (n:Nat) (x:Opd):dOp C KD ⟨env,heap,next⟩ (.load agg n x)=qn KD (zj (.load agg n x) (zd env)) (evalOp (.load agg n x) (zd env) (za heap) next):=rfl
@[simp] theorem zlH (n:Nat) (x v:Opd):dOp C KD ⟨env,heap,next⟩ (.store n x v)=qn KD (zj (.store n x v) (zd env)) (evalOp (.store n x v) (zd env) (za heap) next):=rfl
@[simp] theorem zmF (off:Nat) (x:Opd):dOp C KD ⟨env,heap,next⟩ (.fld off x)=qn KD (zj (.fld off x) (zd env)) (evalOp (.fld off x) (zd env) (za heap) next):=rfl
@[simp] theorem zmG (sz:Nat) (x i:Opd):dOp C KD ⟨env,heap,next⟩ (.idx sz x i)=qn KD (zj (.idx sz x i) (zd env)) (evalOp (.idx sz x i) (zd env) (za heap) next):=rfl
@[simp] theorem zmk (len sz:Nat) (x i:Opd):dOp C KD ⟨env,heap,next⟩ (.idxa len sz x i)=qn KD (zj (.idxa len sz x i) (zd env)) (evalOp (.idxa len sz x i) (zd env) (za heap) next):=rfl
@[simp] theorem zmH (op:BinOp) (x y:Opd):dOp C KD ⟨env,heap,next⟩ (.bin op x y)=qn KD (zj (.bin op x y) (zd env)) (evalOp (.bin op x y) (zd env) (za heap) next):=rfl
@[simp] theorem zmI (neg:Bool) (x y:Opd):dOp C KD ⟨env,heap,next⟩ (.eqb neg x y)=qn KD (zj (.eqb neg x y) (zd env)) (evalOp (.eqb neg x y) (zd env) (za heap) next):=rfl
@[simp] theorem zmJ (neg:Bool) (ks:List Nat) (x y:Opd):dOp C KD ⟨env,heap,next⟩ (.eqs neg ks x y)=qn KD (zj (.eqs neg ks x y) (zd env)) (evalOp (.eqs neg ks x y) (zd env) (za heap) next):=rfl
@[simp] theorem zlI (neg:Bool) (x y:Opd):dOp C KD ⟨env,heap,next⟩ (.eqnil neg x y)=qn KD (zj (.eqnil neg x y) (zd env)) (evalOp (.eqnil neg x y) (zd env) (za heap) next):=rfl
@[simp] theorem zmK (x:Opd):dOp C KD ⟨env,heap,next⟩ (.not x)=qn KD (zj (.not x) (zd env)) (evalOp (.not x) (zd env) (za heap) next):=rfl
@[simp] theorem zmL (x:Opd):dOp C KD ⟨env,heap,next⟩ (.neg x)=qn KD (zj (.neg x) (zd env)) (evalOp (.neg x) (zd env) (za heap) next):=rfl
@[simp] theorem zml (k:IntKind) (x:Opd):dOp C KD ⟨env,heap,next⟩ (.conv k x)=qn KD (zj (.conv k x) (zd env)) (evalOp (.conv k x) (zd env) (za heap) next):=rfl
@[simp] theorem zmM (x:Opd):dOp C KD ⟨env,heap,next⟩ (.len x)=qn KD (zj (.len x) (zd env)) (evalOp (.len x) (zd env) (za heap) next):=rfl
@[simp] theorem zmm (x:Opd):dOp C KD ⟨env,heap,next⟩ (.lens x)=qn KD (zj (.lens x) (zd env)) (evalOp (.lens x) (zd env) (za heap) next):=rfl
@[simp] theorem zmn (x:Opd):dOp C KD ⟨env,heap,next⟩ (.lenm x)=qn KD (zj (.lenm x) (zd env)) (evalOp (.lenm x) (zd env) (za heap) next):=rfl
@[simp] theorem zmV (max:Bool) (x y:Opd):dOp C KD ⟨env,heap,next⟩ (.mm max x y)=qn KD (zj (.mm max x y) (zd env)) (evalOp (.mm max x y) (zd env) (za heap) next):=rfl
@[simp] theorem zmN (sz by_:Nat) (s x:Opd):dOp C KD ⟨env,heap,next⟩ (.app sz by_ s x)=qn KD (zj (.app sz by_ s x) (zd env)) (evalOp (.app sz by_ s x) (zd env) (za heap) next):=rfl
@[simp] theorem zmO (x:Opd) (i:Nat):dOp C KD ⟨env,heap,next⟩ (.ext x i)=qn KD (zj (.ext x i) (zd env)) (evalOp (.ext x i) (zd env) (za heap) next):=rfl
@[simp] theorem zmP (f:Nat) (first caps:List Opd):dOp C KD ⟨env,heap,next⟩ (.mkf f first caps)=qn KD (zj (.mkf f first caps) (zd env)) (evalOp (.mkf f first caps) (zd env) (za heap) next):=rfl
@[simp] theorem zlJ  : dOp C KD ⟨env,heap,next⟩ (.mkmap)=qn KD (zj (.mkmap) (zd env)) (evalOp (.mkmap) (zd env) (za heap) next):=rfl
@[simp] theorem zmo (str:Bool) (zero:AV) (ok:Bool) (m k:Opd):dOp C KD ⟨env,heap,next⟩ (.look str zero ok m k)=qn KD (zj (.look str zero ok m k) (zd env)) (evalOp (.look str zero ok m k) (zd env) (za heap) next):=rfl
@[simp] theorem zmQ (str:Bool) (m k v:Opd):dOp C KD ⟨env,heap,next⟩ (.upd str m k v)=qn KD (zj (.upd str m k v) (zd env)) (evalOp (.upd str m k v) (zd env) (za heap) next):=rfl
@[simp] theorem zmR (sz by_:Nat) (zero:List AV) (n:Opd):dOp C KD ⟨env,heap,next⟩ (.mks sz by_ zero n)=qn KD (zj (.mks sz by_ zero n) (zd env)) (evalOp (.mks sz by_ zero n) (zd env) (za heap) next):=rfl
@[simp] theorem zmS (sz:Nat) (x:Opd) (lo hi:Option Opd):dOp C KD ⟨env,heap,next⟩ (.slc sz x lo hi)=qn KD (zj (.slc sz x lo hi) (zd env)) (evalOp (.slc sz x lo hi) (zd env) (za heap) next):=rfl
@[simp] theorem zmT (x:Opd):dOp C KD ⟨env,heap,next⟩ (.nck x)=qn KD (zj (.nck x) (zd env)) (evalOp (.nck x) (zd env) (za heap) next):=rfl
@[simp] theorem zmp (sz:Nat) (d x:Opd):dOp C KD ⟨env,heap,next⟩ (.copy sz d x)=qn KD (zj (.copy sz d x) (zd env)) (evalOp (.copy sz d x) (zd env) (za heap) next):=rfl
@[simp] theorem zmU (len sz:Nat) (x i:Opd):dOp C KD ⟨env,heap,next⟩ (.ixa len sz x i)=qn KD (zj (.ixa len sz x i) (zd env)) (evalOp (.ixa len sz x i) (zd env) (za heap) next):=rfl
end
end
section
section
variable {C:CtxY} {nt:Fr} {x:ACode} {K:Exit→St→Prop} {st:St}
end
@[simp] theorem zgZ {α:Type} {p:α→Prop}:(∀ x∈([]:List α),p x)=True:=by simp
theorem qx {x:Int} (h1 : -9223372036854775808≤x) (h2:x < 9223372036854775808):IntKind.i64.wrap x=x:=by
  simp [IntKind.wrap,IntKind.bits,IntKind.signed,Int.bmod_def]
  omega
theorem zfG {x:Int} (h1:0≤x) (h2:x < 18446744073709551616):IntKind.u64.wrap x=x:=by
  simp [IntKind.wrap,IntKind.bits,IntKind.signed]
  omega
end
section
def WF {α:Type}:List (Nat×α)→List (Nat×α)→List (Nat×α)
  | [],l=>l
  | (k,v)::r,l=>WF r (zl l k v)
@[simp] theorem zkn {α:Type} (l:List (Nat×α)):WF [] l=l:=rfl
@[simp] theorem zj7 {α:Type} (k:Nat) (v:α) (r l:List (Nat×α)):WF ((k,v)::r) l=WF r (zl l k v):=rfl
section
variable {C:CtxY} {nt:Fr} {x:ACode} {K:Exit→St→Prop}
end
end
section
theorem vS {α β:Type} {x:Option α} {f:α→Option β} {r:β} (h:x.bind f=some r):∃ a,x=some a∧f a=some r:=Option.bind_eq_some_iff.1 h
def ze {α:Type} (l:List α) (n:Int):Option α:=if 0≤n then l[n.toNat]? else none
theorem Jj {α:Type} {l:List α} {n:Int} {e:α} (h:ze l n=some e):0≤n∧l[n.toNat]?=some e∧n.toNat < l.length∧n < l.length∧∃ h:n.toNat < l.length,l[n.toNat]=e:=by
  unfold ze at h;split at h
  · obtain ⟨h1,h2⟩:=List.getElem?_eq_some_iff.1 h
    exact ⟨‹_›,h,h1,by omega,h1,h2⟩
  · cases h
theorem grd {α:Type} {b:Bool} {x y:Option α} {r:α} (h:(bif b then x else y)=some r):(b=true∧x=some r)∨(b=false∧y=some r):=by
  cases b
  · exact .inr ⟨rfl,h⟩
  · exact .inl ⟨rfl,h⟩
theorem ZK {C:CtxY} {nt:Fr} {o:List Nat} {items:List AItem} {ks:Option (List Nat)} {K:Exit→St→Prop} {st:St} (h:evl C items (kD ks K) st):awp C nt (.region false o items ks) K st:=
  Wt (kc C items _ st h)
theorem zb4 {C:CtxY} {nt:Fr} {o:List Nat} {items:List AItem} {ks:Option (List Nat)} {K:Exit→St→Prop} {st:St} (h:wpD C (J0 items) o items (kD ks K) st):awp C nt (.region true o items ks) K st:=
  wD h
theorem ziq {C:CtxY} {nt:Fr} {c:Opd} {x y:ACode} {K:Exit→St→Prop} {st:St} (b:Bool) (hc:zd st.env c=.imm (.bool b)) (h1:b=true→awp C nt x K st) (h2:b=false→awp C nt y K st):awp C nt (.cond c x y) K st:=
  j7 b hc h1 h2
theorem zir {id:Nat} {K:Exit→St→Prop} {st:St} (h:K .normal st):xn id K (.exit id) st:=by
  simp only [zab,if_true];exact h
def forFrom {σ ρ:Type} (f:Nat→σ→Option (σ ⊕ ρ)):Nat→Nat→σ→Option (σ ⊕ ρ)
  | _,0,s=>some (.inl s)
  | i,k+1,s=>match f i s with
    | none=>none
    | some (.inr r)=>some (.inr r)
    | some (.inl s')=>forFrom f (i+1) k s'
def forR {σ ρ:Type} (n:Int) (f:Nat→σ→Option (σ ⊕ ρ)) (s:σ):Option (σ ⊕ ρ):=bif Nat.blt n.toNat 4611686018427387904 then forFrom f 0 n.toNat s else none
theorem kE {σ ρ:Type} {n:Int} {f:Nat→σ→Option (σ ⊕ ρ)} {s:σ} (hn:n < 4611686018427387904):forR n f s=forFrom f 0 n.toNat s:=by
  have:Nat.blt n.toNat 4611686018427387904=true:=by simp only [Nat.blt_eq];omega
  unfold forR;rw [this];rfl
theorem Jk {σ ρ:Type} {n:Int} {f:Nat→σ→Option (σ ⊕ ρ)} {s:σ} {o:σ ⊕ ρ} (h:forR n f s=some o):n < 4611686018427387904∧forFrom f 0 n.toNat s=some o:=by
  unfold forR at h
  cases hb:Nat.blt n.toNat 4611686018427387904 with
  | true=>rw [hb] at h;simp only [Nat.blt_eq] at hb;exact ⟨by omega,h⟩
  | false=>rw [hb] at h;cases h
def Kp {σ ρ:Type} (W:σ→St) (K:Exit→St→Prop) (out:σ ⊕ ρ) (o:σ ⊕ ρ):Exit→St→Prop
  | .normal,st=>∃ s',o=.inl s'∧Weak st (W s')
  | e,st=>∃ y,o=.inr y∧(out=.inr y→K e st)
theorem zfH {C:CtxY} {nt:Fr} {x:ACode} {K:Exit→St→Prop} {st:St} {σ ρ:Type} {n:Int} {f:Nat→σ→Option (σ ⊕ ρ)} {s0:σ} {out:σ ⊕ ρ} (hl:forR n f s0=some out)
    (E:Nat→σ→List (Nat×AV)) (H:Nat→σ→List (Nat×AObj)) (h0:Weak st ⟨E 0 s0,H 0 s0,st.next⟩)
    (body:∀ (i:Nat) (s:σ) (o:σ ⊕ ρ),(i:Int) < n→IntKind.i64.wrap ((i:Int)+1)=(i:Int)+1→f i s=some o→awp C nt x (Kp (fun s=>⟨E (i+1) s,H (i+1) s,st.next⟩) K out o) ⟨E i s,H i s,st.next⟩)
    (last:∀ (m:Nat) (s:σ),¬ (m:Int) < n→out=.inl s→awp C nt x (wN (fun _=>False) K) ⟨E m s,H m s,st.next⟩):awp C nt (.loop x) K st:=by
  obtain ⟨hn,hl⟩:=Jk hl
  refine XO (ι:={p:Nat×σ // p.1≤n.toNat∧forFrom f p.1 (n.toNat - p.1) p.2=some out}) (fun p=>⟨E p.1.1 p.1.2,H p.1.1 p.1.2,st.next⟩) (fun p=>n.toNat - p.1.1) ⟨(0,s0),Nat.zero_le _,hl⟩ (fun _=>Nat.le_refl _) h0 (Nat.le_refl _) ?_
  rintro ⟨⟨i,s⟩,hi,hf⟩
  simp only at hi hf
  rcases Nat.lt_or_ge i n.toNat with h | h
  · obtain ⟨k,hk⟩:∃ k,n.toNat - i=k+1:=⟨n.toNat - i - 1,by omega⟩
    rw [hk] at hf
    simp only [forFrom] at hf
    split at hf
    · cases hf
    · rename_i r hr
      cases hf
      refine qO ?_ (body i s _ (by omega) (qx (by omega) (by omega)) hr)
      intro e st' hK
      cases e with
      | normal=>obtain ⟨s',h1,_⟩:=hK;cases h1
      | _=>obtain ⟨y,h1,h2⟩:=hK;cases h1;exact h2 rfl
    · rename_i s' hr
      refine qO ?_ (body i s _ (by omega) (qx (by omega) (by omega)) hr)
      intro e st' hK
      cases e with
      | normal=>
        obtain ⟨s'',h1,h2⟩:=hK
        cases h1
        exact ⟨⟨(i+1,s'),h,by simp only;rw [show n.toNat - (i+1)=k by omega];exact hf⟩,by simp only;omega,h2⟩
      | _=>obtain ⟨y,h1,h2⟩:=hK;cases h1
  · obtain rfl:i=n.toNat:=by omega
    simp only [Nat.sub_self,forFrom,Option.some.injEq] at hf
    refine qO ?_ (last n.toNat s (by omega) hf.symm)
    intro e st' hK
    cases e with
    | normal=>exact hK.elim
    | _=>exact hK
def iterN {σ ρ:Type} (f:σ→Option (σ ⊕ ρ)):Nat→σ→Option ρ
  | 0,_=>none
  | k+1,s=>match f s with
    | none=>none
    | some (.inr r)=>some r
    | some (.inl s')=>iterN f k s'
theorem Qk {σ ρ:Type} {f:σ→Option (σ ⊕ ρ)}:∀ {k:Nat} {s:σ} {r:ρ},iterN f k s=some r→∀ {k':Nat},k≤k'→iterN f k' s=some r
  | 0,_,_,h,_,_=>by cases h
  | k+1,s,r,h,k',hk=>by
    obtain ⟨m,rfl⟩:∃ m,k'=m+1:=⟨k' - 1,by omega⟩
    simp only [iterN] at h ⊢
    split at h
    · cases h
    · exact h
    · exact Qk h (by omega)
open Classical in
noncomputable def iter {σ ρ:Type} (f:σ→Option (σ ⊕ ρ)) (s:σ):Option ρ:=if h:∃ r,∃ k,iterN f k s=some r then some h.choose else none
theorem yn {σ ρ:Type} {f:σ→Option (σ ⊕ ρ)} {s:σ} {r:ρ}:iter f s=some r↔∃ k,iterN f k s=some r:=by
  unfold iter
  split
  · rename_i h
    obtain ⟨k,hk⟩:=h.choose_spec
    simp only [Option.some.injEq]
    constructor
    · intro e;exact ⟨k,by rw [←e];exact hk⟩
    · rintro ⟨k',hk'⟩
      have h1:=Qk hk (Nat.le_max_left k k')
      have h2:=Qk hk' (Nat.le_max_right k k')
      rw [h1] at h2;exact Option.some.inj h2
  · rename_i h
    constructor
    · intro e;cases e
    · rintro ⟨k,hk⟩;exact absurd ⟨r,k,hk⟩ h
theorem zhv {σ ρ:Type} (f:σ→Option (σ ⊕ ρ)) (s:σ):iter f s=match f s with
    | none=>none
    | some (.inr r)=>some r
    | some (.inl s')=>iter f s':=by
  apply Option.ext
  intro r
  rw [yn]
  constructor
  · rintro ⟨k,hk⟩
    cases k with
    | zero=>cases hk
    | succ k=>
      simp only [iterN] at hk
      split at hk
      · cases hk
      · exact hk
      · exact yn.2 ⟨k,hk⟩
  · intro h
    split at h
    · cases h
    · rename_i e;exact ⟨1,by simp only [iterN,e];exact h⟩
    · rename_i e
      obtain ⟨k,hk⟩:=yn.1 h
      exact ⟨k+1,by simp only [iterN,e];exact hk⟩
theorem zfI {C:CtxY} {nt:Fr} {x:ACode} {K:Exit→St→Prop} {st:St} {σ ρ:Type} {f:σ→Option (σ ⊕ ρ)} {s0:σ} {out:ρ} (hl:iter f s0=some out)
    (E:σ→List (Nat×AV)) (H:σ→List (Nat×AObj)) (h0:Weak st ⟨E s0,H s0,st.next⟩)
    (body:∀ (s:σ) (o:σ ⊕ ρ),f s=some o→awp C nt x (Kp (fun s=>⟨E s,H s,st.next⟩) K (.inr out) o) ⟨E s,H s,st.next⟩):awp C nt (.loop x) K st:=by
  obtain ⟨k,hk⟩:=yn.1 hl
  refine XO (ι:={p:Nat×σ // iterN f p.1 p.2=some out}) (fun p=>⟨E p.1.2,H p.1.2,st.next⟩) (fun p=>p.1.1) ⟨(k,s0),hk⟩ (fun _=>Nat.le_refl _) h0 (Nat.le_refl _) ?_
  rintro ⟨⟨i,s⟩,hf⟩
  simp only at hf
  cases i with
  | zero=>cases hf
  | succ i=>
    simp only [iterN] at hf
    split at hf
    · cases hf
    · rename_i r hr
      cases hf
      refine qO ?_ (body s _ hr)
      intro e st' hK
      cases e with
      | normal=>obtain ⟨s',h1,_⟩:=hK;cases h1
      | _=>obtain ⟨y,h1,h2⟩:=hK;cases h1;exact h2 rfl
    · rename_i s' hr
      refine qO ?_ (body s _ hr)
      intro e st' hK
      cases e with
      | normal=>obtain ⟨s'',h1,h2⟩:=hK;cases h1;exact ⟨⟨(i,s'),hf⟩,by simp only;omega,h2⟩
      | _=>obtain ⟨y,h1,h2⟩:=hK;cases h1
theorem APure.start {C:Ctx} {f:Nat} {F:AFun} (hF:qf C f=some F.erase) {args:List IV} {r:IV} (d:Nat) (hn:args.length≤F.nt)
    (h:∀ B,awp C.plain ⟨F.nt,B⟩ F.body (WE F.results (VE d r)) {env:=q7 0 (args.map .imm),heap:=[],next:=0}):APure C f args r:=APure.of (d:=d) (ACall.enter hF (by simpa using hn) (fun B=>qO (fun e st hk=>by
      have key:∀ {o:Option AV},Ji (VE d r) st.heap st.next o→∃ x,o=some x∧VE d r x st.heap st.next:=fun {o} ho=>by
        cases o with
        | none=>exact ho.elim
        | some x=>exact ⟨x,rfl,ho⟩
      cases e with
      | ret=>exact ⟨.inl rfl,key hk⟩
      | normal=>exact ⟨.inr rfl,key hk⟩
      | _=>exact hk.elim) (h B)))
end
section
def zc (n:Int):List IV:=[.int .i64 n]
def VF (k:IntKind) (n:Int):List IV:=[.int k n]
def zg (b:Bool):List IV:=[.bool b]
def zmq (s:ByteArray):List IV:=[.str s]
def zt {α:Type} (f:α→List IV) (l:List α):List IV:=[.slice (l.map f)]
def zn (r:List IV):List AV:=r.map .imm
abbrev vI (n:Int):AV:=.imm (.int .i64 n)
abbrev vB (b:Bool):AV:=.imm (.bool b)
theorem zis {α:Type} {b:Bool} {x y r:α} (g:b=true) (h:(bif b then x else y)=r):x=r:=by subst g;exact h
theorem zit {α:Type} {b:Bool} {x y r:α} (g:b=false) (h:(bif b then x else y)=r):y=r:=by subst g;exact h
theorem zhw {C:CtxY} {nt:Fr} {c:Opd} {x y:ACode} {K:Exit→St→Prop} {st:St} (hc:zd st.env c=.imm (.bool true)) (h1:awp C nt x K st):awp C nt (.cond c x y) K st:=
  j7 true hc (fun _=>h1) (fun h=>by cases h)
theorem zhx {C:CtxY} {nt:Fr} {c:Opd} {x y:ACode} {K:Exit→St→Prop} {st:St} (hc:zd st.env c=.imm (.bool false)) (h1:awp C nt y K st):awp C nt (.cond c x y) K st:=
  j7 false hc (fun h=>by cases h) (fun _=>h1)
theorem zej {n:St→Prop} {K:Exit→St→Prop} {id:Nat} {st:St} (h:K (.exit id) st):wN n K (.exit id) st:=h
theorem q9 {n:St→Prop} {K:Exit→St→Prop} {st:St} (h:n st):wN n K .normal st:=h
theorem zg0 {id:Nat} {K:Exit→St→Prop} {st:St} (h:K .normal st):xn id K .normal st:=h
def XS {α:Type} (l:List α) (a b:Int):Option (List α):=if 0≤a∧a≤b∧b≤(l.length:Int) then some ((l.take b.toNat).drop a.toNat) else none
theorem zek {α:Type} {l:List α} {a b:Int} {e:List α} (h:XS l a b=some e):0≤a∧a≤b∧b≤(l.length:Int)∧(l.take b.toNat).drop a.toNat=e:=by
  unfold XS at h;split at h
  · rename_i hh;exact ⟨hh.1,hh.2.1,hh.2.2,Option.some.inj h⟩
  · cases h
def Ql (k:IntKind) (a b:Int):Option Int:=if b=0 then none else some (a.tmod b)
theorem zel {k:IntKind} {a b e:Int} (h:Ql k a b=some e):¬ b=0∧a.tmod b=e:=by
  unfold Ql at h;split at h
  · cases h
  · exact ⟨‹_›,Option.some.inj h⟩
attribute [simp] bne evalOp cellsOf vN xO J0 zF xv qN wA jJ Wh xB ql ZH xf jG jR qQ zT zj qb qP bef Nat.testBit jI zU xr zK zP
attribute [simp] zc VF zg zmq zt zn
end
section
def ja (φ:Nat→Nat):AV→AV
  | .gslice i rows=>.gslice (φ i) rows
  | .ptr i r o=>.ptr (φ i) r o
  | .mslice i o l=>.mslice (φ i) o l
  | .map i=>.map (φ i)
  | .yld l i=>.yld l (φ i)
  | x=>x
def ZB (φ:Nat→Nat):AV→AV
  | .func f a c=>.func f (a.map (ja φ)) (c.map (ja φ))
  | .agg cs=>.agg (cs.map (ja φ))
  | .tuple cs=>.tuple (cs.map (ja φ))
  | x=>ja φ x
def wQ (φ:Nat→Nat):AV→AV
  | .tuple cs=>.tuple (cs.map (ZB φ))
  | x=>ZB φ x
def vT (φ:Nat→Nat) (row:List AV):List AV:=row.map (wQ φ)
def zg1 (φ:Nat→Nat) (e:IV×AV):IV×AV:=(e.1,wQ φ e.2)
def zY (φ:Nat→Nat):AObj→AObj
  | .rows sz rows=>.rows sz (rows.map (vT φ))
  | .tip sz l=>.tip sz l
  | .map es=>.map (es.map (zg1 φ))
  | .dead=>.dead
  | .lp l R s pe=>.lp l R s pe
def rnH (φ:Nat→Nat):List (Nat×AObj)→List (Nat×AObj)
  | []=>[]
  | (k,o)::r=>(φ k,zY φ o)::rnH φ r
def rnL (φ:Nat→Nat) (l:List AV):List AV:=l.map (wQ φ)
def zfJ (C:Ctx) (f:Nat) (args:List AV) (heap:List (Nat×AObj)) (next:Nat) (r:AV) (heap':List (Nat×AObj)) (next':Nat):Prop:=
  ACall C f args heap next fun x h n=>x=r∧h=heap'∧n=next'
section
variable {C:Ctx} {g g':Gh} {h h' h0:Nat→Option AObj} {N N' N0:Nat→Prop} {w w':World} {φ:Nat→Nat}
structure Ren (φ:Nat→Nat) (N0:Nat→Prop) (g0:Gh) (h0:Nat→Option AObj) (g:Gh) (h:Nat→Option AObj):Prop where
  rho:∀ i,N0 i→g0.ρ i=g.ρ (φ i)
  zed:g0.Z=g.Z
theorem yo {g0:Gh} {m:Nat} (hr:∀ i,i < m→g0.ρ i=g.ρ (φ i)) (hz:g0.Z=g.Z) (hh:∀ i o,h0 i=some o→h (φ i)=some (zY φ o)) {x:AV} {v:Value} (hb:zK m x=true) (hv:RV C g h N w (ja φ x) v):RV C g0 h0 (· < m) w x v:=by
  cases x with
  | top=>exact .top v
  | undef=>simp only [ja] at hv;cases hv;exact .undef
  | imm y=>simp only [ja] at hv;cases hv with | imm _ _ hr'=>exact .imm _ _ (by rw [hz];exact hr')
  | nil=>simp only [ja] at hv;cases hv;exact .nil
  | nnil=>simp only [ja] at hv;cases hv with | nnil a cap=>exact .nnil a cap
  | yld l id=>
    simp only [ja] at hv
    have hid:id < m:=by simpa [zK] using hb
    cases hv with
    | yld _ _ _ hp=>exact .yld l id hid fun R s pe h2=>by rw [hr id hid];exact hp R s pe (by rw [hh id _ h2];rfl)
  | gslice id rows=>
    simp only [ja] at hv
    have hid:id < m:=by simpa [zK] using hb
    cases hv with
    | gslice _ _ _ hr' _ ht=>
      refine .gslice id rows v (by rw [hz];exact hr') hid fun sz len h1 => ?_
      obtain ⟨a1,a2,a3⟩:=ht sz len (by rw [hh id _ h1];rfl)
      refine ⟨a1,a2,fun e => ?_⟩
      rcases a3 e with ⟨b1,b2⟩ | ⟨b,cap,c,e',b1,b2,b3,b4⟩
      · exact .inl ⟨by rw [hr id hid];exact b1,b2⟩
      · exact .inr ⟨b,cap,c,e',by rw [hr id hid];exact b1,b2,b3,b4⟩
  | eptr cells=>
    simp only [ja] at hv
    cases hv with
    | eptr _ b off cv hz' hc hr'=>exact .eptr cells b off cv (by rw [hz];exact hz') hc (by rw [hz];exact hr')
  | ptr id row off=>
    simp only [ja] at hv
    have hid:id < m:=by simpa [zK] using hb
    cases hv with
    | ptr _ _ _ _ _ h1 hp=>
      refine .ptr id row off v hid h1 fun sz rows h2 => ?_
      obtain ⟨b,b1,b2⟩:=hp sz _ (by rw [hh id _ h2];rfl)
      exact ⟨b,by rw [hr id hid];exact b1,b2⟩
  | mslice id off len=>
    simp only [ja] at hv
    have hid:id < m:=by simpa [zK] using hb
    cases hv with
    | mslice _ _ _ _ _ h1 hp=>
      refine .mslice id off len v hid h1 fun sz rows h2 => ?_
      obtain ⟨b1,b2⟩:=hp sz _ (by rw [hh id _ h2];rfl)
      simp only [List.length_map] at b1
      refine ⟨b1,?_⟩
      rcases b2 with ⟨c1,c2,c3⟩ | ⟨b,cap,c,e,c1,c2,c3,c4,c5⟩
      · exact .inl ⟨by rw [hr id hid];exact c1,by simpa using c2,c3⟩
      · exact .inr ⟨b,cap,c,e,by rw [hr id hid];exact c1,c2,c3,c4,c5⟩
  | map id=>
    simp only [ja] at hv
    have hid:id < m:=by simpa [zK] using hb
    cases hv with
    | map _ _ _ h1 hp=>
      refine .map id v hid h1 fun es h2 => ?_
      obtain ⟨b,b1,b2⟩:=hp _ (by rw [hh id _ h2];rfl)
      exact ⟨b,by rw [hr id hid];exact b1,b2⟩
  | func=>cases hb
  | agg=>cases hb
  | tuple=>cases hb
theorem qR {g0:Gh} {m:Nat} (hr:∀ i,i < m→g0.ρ i=g.ρ (φ i)) (hz:g0.Z=g.Z) (hh:∀ i o,h0 i=some o→h (φ i)=some (zY φ o)) {x:AV} {v:Value} (hb:xr m x=true) (hv:RV C g h N w (ZB φ x) v):RV C g0 h0 (· < m) w x v:=by
  cases x with
  | func f a c=>
    simp only [xr,Bool.and_eq_true,List.all_eq_true] at hb
    simp only [ZB] at hv
    cases hv with
    | func _ _ _ vf vc hlf hlc hf hc=>
      refine .func f a c vf vc (by simpa using hlf) (by simpa using hlc) (fun i y u h1 h2 => ?_) (fun i y u h1 h2 => ?_)
      · exact yo hr hz hh (hb.1 y (List.mem_of_getElem? h1)) (hf i _ u (by rw [List.getElem?_map,h1];rfl) h2)
      · exact yo hr hz hh (hb.2 y (List.mem_of_getElem? h1)) (hc i _ u (by rw [List.getElem?_map,h1];rfl) h2)
  | agg cs=>
    simp only [xr,List.all_eq_true] at hb
    simp only [ZB] at hv
    cases hv with
    | agg _ vs hl h1 hr'=>
      exact .agg cs vs (by simpa using hl) h1 fun i y u e1 e2=>yo hr hz hh (hb y (List.mem_of_getElem? e1)) (hr' i _ u (by rw [List.getElem?_map,e1];rfl) e2)
  | tuple cs=>
    simp only [xr,List.all_eq_true] at hb
    simp only [ZB] at hv
    cases hv with
    | tuple _ vs hl hr'=>
      exact .tuple cs vs (by simpa using hl) fun i y u e1 e2=>yo hr hz hh (hb y (List.mem_of_getElem? e1)) (hr' i _ u (by rw [List.getElem?_map,e1];rfl) e2)
  | _=>exact yo hr hz hh hb hv
theorem VG {g0:Gh} {m:Nat} (hr:∀ i,i < m→g0.ρ i=g.ρ (φ i)) (hz:g0.Z=g.Z) (hh:∀ i o,h0 i=some o→h (φ i)=some (zY φ o)) {x:AV} {v:Value} (hb:zU m x=true) (hv:RV C g h N w (wQ φ x) v):RV C g0 h0 (· < m) w x v:=by
  cases x with
  | tuple cs=>
    simp only [zU,List.all_eq_true] at hb
    simp only [wQ] at hv
    cases hv with
    | tuple _ vs hl hr'=>
      exact .tuple cs vs (by simpa using hl) fun i y u e1 e2=>qR hr hz hh (hb y (List.mem_of_getElem? e1)) (hr' i _ u (by rw [List.getElem?_map,e1];rfl) e2)
  | top=>exact qR (x:=.top) hr hz hh hb hv
  | undef=>exact qR (x:=.undef) hr hz hh hb hv
  | imm y=>exact qR (x:=.imm y) hr hz hh hb hv
  | nil=>exact qR (x:=.nil) hr hz hh hb hv
  | nnil=>exact qR (x:=.nnil) hr hz hh hb hv
  | gslice a b=>exact qR (x:=.gslice a b) hr hz hh hb hv
  | eptr a=>exact qR (x:=.eptr a) hr hz hh hb hv
  | ptr a b c=>exact qR (x:=.ptr a b c) hr hz hh hb hv
  | mslice a b c=>exact qR (x:=.mslice a b c) hr hz hh hb hv
  | map a=>exact qR (x:=.map a) hr hz hh hb hv
  | func a b c=>exact qR (x:=.func a b c) hr hz hh hb hv
  | agg a=>exact qR (x:=.agg a) hr hz hh hb hv
  | yld a b=>exact qR (x:=.yld a b) hr hz hh hb hv
theorem qJ {g0:Gh} {m:Nat} (hr:∀ i,i < m→g.ρ (φ i)=g0.ρ i) (hz:g0.Z=g.Z) (hN:∀ i,i < m→N (φ i)) (hh:∀ i o,i < m→h (φ i)=some o→∃ o0,h0 i=some o0∧o=zY φ o0) {x:AV} {v:Value} (hb:zK m x=true) (hv:RV C g0 h0 (· < m) w x v):RV C g h N w (ja φ x) v:=by
  cases hv with
  | top=>cases v<;>exact .top _
  | undef=>exact .undef
  | imm y _ hr'=>exact .imm _ _ (by rw [←hz];exact hr')
  | nil=>exact .nil
  | nnil a cap=>exact .nnil a cap
  | yld l id hid hp=>
    refine .yld l (φ id) (hN id hid) fun R s pe h2 => ?_
    obtain ⟨o0,e0,e1⟩:=hh id _ hid h2
    cases o0<;>simp only [zY] at e1<;>cases e1
    rw [hr id hid];exact hp _ _ _ e0
  | gslice id rows _ hr' hid ht=>
    refine .gslice (φ id) rows v (by rw [←hz];exact hr') (hN id hid) fun sz len h1 => ?_
    obtain ⟨o0,e0,e1⟩:=hh id _ hid h1
    cases o0<;>simp only [zY] at e1<;>cases e1
    obtain ⟨a1,a2,a3⟩:=ht _ _ e0
    refine ⟨a1,a2,fun e => ?_⟩
    rcases a3 e with ⟨b1,b2⟩ | ⟨b,cap,c,e',b1,b2,b3,b4⟩
    · exact .inl ⟨by rw [hr id hid];exact b1,b2⟩
    · exact .inr ⟨b,cap,c,e',by rw [hr id hid];exact b1,b2,b3,b4⟩
  | eptr cells b off cv hz' hc hr'=>exact .eptr cells b off cv (by rw [←hz];exact hz') hc (by rw [←hz];exact hr')
  | ptr id row off _ hid h1 hp=>
    refine .ptr (φ id) row off v (hN id hid) h1 fun sz rows h2 => ?_
    obtain ⟨o0,e0,e1⟩:=hh id _ hid h2
    cases o0<;>simp only [zY] at e1<;>cases e1
    obtain ⟨b,b1,b2⟩:=hp _ _ e0
    exact ⟨b,by rw [hr id hid];exact b1,b2⟩
  | mslice id off len _ hid h1 hp=>
    refine .mslice (φ id) off len v (hN id hid) h1 fun sz rows h2 => ?_
    obtain ⟨o0,e0,e1⟩:=hh id _ hid h2
    cases o0<;>simp only [zY] at e1<;>cases e1
    obtain ⟨b1,b2⟩:=hp _ _ e0
    refine ⟨by simpa using b1,?_⟩
    rcases b2 with ⟨c1,c2,c3⟩ | ⟨b,cap,c,e,c1,c2,c3,c4,c5⟩
    · exact .inl ⟨by rw [hr id hid];exact c1,by rw [c2];rfl,c3⟩
    · exact .inr ⟨b,cap,c,e,by rw [hr id hid];exact c1,c2,c3,c4,c5⟩
  | map id _ hid h1 hp=>
    refine .map (φ id) v (hN id hid) h1 fun es h2 => ?_
    obtain ⟨o0,e0,e1⟩:=hh id _ hid h2
    cases o0<;>simp only [zY] at e1<;>cases e1
    obtain ⟨b,b1,b2⟩:=hp _ e0
    exact ⟨b,by rw [hr id hid];exact b1,b2⟩
  | func=>cases hb
  | agg=>cases hb
  | tuple=>cases hb
theorem jf {g0:Gh} {m:Nat} (hr:∀ i,i < m→g.ρ (φ i)=g0.ρ i) (hz:g0.Z=g.Z) (hN:∀ i,i < m→N (φ i)) (hh:∀ i o,i < m→h (φ i)=some o→∃ o0,h0 i=some o0∧o=zY φ o0) {x:AV} {v:Value} (hb:xr m x=true) (hv:RV C g0 h0 (· < m) w x v):RV C g h N w (ZB φ x) v:=by
  cases x with
  | func f a c=>
    simp only [xr,Bool.and_eq_true,List.all_eq_true] at hb
    simp only [ZB]
    cases hv with
    | func _ _ _ vf vc hlf hlc hf hc=>
      refine .func f _ _ vf vc (by simpa using hlf) (by simpa using hlc) (fun i y u h1 h2 => ?_) (fun i y u h1 h2 => ?_)
      · rw [List.getElem?_map,Option.map_eq_some_iff] at h1
        obtain ⟨z,h1,rfl⟩:=h1
        exact qJ hr hz hN hh (hb.1 z (List.mem_of_getElem? h1)) (hf i z u h1 h2)
      · rw [List.getElem?_map,Option.map_eq_some_iff] at h1
        obtain ⟨z,h1,rfl⟩:=h1
        exact qJ hr hz hN hh (hb.2 z (List.mem_of_getElem? h1)) (hc i z u h1 h2)
  | agg cs=>
    simp only [xr,List.all_eq_true] at hb
    simp only [ZB]
    cases hv with
    | agg _ vs hl h1 hr'=>
      refine .agg _ vs (by simpa using hl) h1 fun i y u e1 e2 => ?_
      rw [List.getElem?_map,Option.map_eq_some_iff] at e1
      obtain ⟨z,e1,rfl⟩:=e1
      exact qJ hr hz hN hh (hb z (List.mem_of_getElem? e1)) (hr' i z u e1 e2)
  | tuple cs=>
    simp only [xr,List.all_eq_true] at hb
    simp only [ZB]
    cases hv with
    | tuple _ vs hl hr'=>
      refine .tuple _ vs (by simpa using hl) fun i y u e1 e2 => ?_
      rw [List.getElem?_map,Option.map_eq_some_iff] at e1
      obtain ⟨z,e1,rfl⟩:=e1
      exact qJ hr hz hN hh (hb z (List.mem_of_getElem? e1)) (hr' i z u e1 e2)
  | top=>exact qJ (x:=.top) hr hz hN hh hb hv
  | undef=>exact qJ (x:=.undef) hr hz hN hh hb hv
  | imm y=>exact qJ (x:=.imm y) hr hz hN hh hb hv
  | nil=>exact qJ (x:=.nil) hr hz hN hh hb hv
  | nnil=>exact qJ (x:=.nnil) hr hz hN hh hb hv
  | gslice a b=>exact qJ (x:=.gslice a b) hr hz hN hh hb hv
  | eptr a=>exact qJ (x:=.eptr a) hr hz hN hh hb hv
  | ptr a b c=>exact qJ (x:=.ptr a b c) hr hz hN hh hb hv
  | mslice a b c=>exact qJ (x:=.mslice a b c) hr hz hN hh hb hv
  | map a=>exact qJ (x:=.map a) hr hz hN hh hb hv
  | yld a b=>exact qJ (x:=.yld a b) hr hz hN hh hb hv
theorem zag {g0:Gh} {m:Nat} (hr:∀ i,i < m→g.ρ (φ i)=g0.ρ i) (hz:g0.Z=g.Z) (hN:∀ i,i < m→N (φ i)) (hh:∀ i o,i < m→h (φ i)=some o→∃ o0,h0 i=some o0∧o=zY φ o0) {x:AV} {v:Value} (hb:zU m x=true) (hv:RV C g0 h0 (· < m) w x v):RV C g h N w (wQ φ x) v:=by
  cases x with
  | tuple cs=>
    simp only [zU,List.all_eq_true] at hb
    simp only [wQ]
    cases hv with
    | tuple _ vs hl hr'=>
      refine .tuple _ vs (by simpa using hl) fun i y u e1 e2 => ?_
      rw [List.getElem?_map,Option.map_eq_some_iff] at e1
      obtain ⟨z,e1,rfl⟩:=e1
      exact jf hr hz hN hh (hb z (List.mem_of_getElem? e1)) (hr' i z u e1 e2)
  | top=>exact jf (x:=.top) hr hz hN hh hb hv
  | undef=>exact jf (x:=.undef) hr hz hN hh hb hv
  | imm y=>exact jf (x:=.imm y) hr hz hN hh hb hv
  | nil=>exact jf (x:=.nil) hr hz hN hh hb hv
  | nnil=>exact jf (x:=.nnil) hr hz hN hh hb hv
  | gslice a b=>exact jf (x:=.gslice a b) hr hz hN hh hb hv
  | eptr a=>exact jf (x:=.eptr a) hr hz hN hh hb hv
  | ptr a b c=>exact jf (x:=.ptr a b c) hr hz hN hh hb hv
  | mslice a b c=>exact jf (x:=.mslice a b c) hr hz hN hh hb hv
  | map a=>exact jf (x:=.map a) hr hz hN hh hb hv
  | func a b c=>exact jf (x:=.func a b c) hr hz hN hh hb hv
  | agg a=>exact jf (x:=.agg a) hr hz hN hh hb hv
  | yld a b=>exact jf (x:=.yld a b) hr hz hN hh hb hv
theorem zfK {g0:Gh} {m b:Nat} (hr:∀ i,i < m→g0.ρ i=g.ρ (φ i)) (hz:g0.Z=g.Z) (hh:∀ i o,h0 i=some o→h (φ i)=some (zY φ o)) {o:AObj} (hb:zP m o) (hv:RObj C g h N w b (zY φ o)):RObj C g0 h0 (· < m) w b o:=by
  cases o with
  | rows sz rows=>
    simp only [zY,RObj] at hv ⊢
    obtain ⟨a1,c,e,a2,a3,a4⟩:=hv
    refine ⟨by rw [hz];exact a1,c,e,a2,fun i row h1 => ?_,fun i row j x h1 h2 => ?_⟩
    · have:=a3 i (vT φ row) (by rw [List.getElem?_map,h1];rfl);simpa [vT] using this
    · obtain ⟨cv,b1,b2,b3⟩:=a4 i (vT φ row) j (wQ φ x) (by rw [List.getElem?_map,h1];rfl) (by simp only [vT];rw [List.getElem?_map,h2];rfl)
      exact ⟨cv,b1,b2,VG hr hz hh (hb row (List.mem_of_getElem? h1) x (List.mem_of_getElem? h2)) b3⟩
  | tip sz l=>simp only [zY,RObj] at hv ⊢; rw [hz];exact hv
  | map es=>
    simp only [zY,RObj] at hv ⊢
    obtain ⟨a1,ces,clock,a2,a3,a4⟩:=hv
    refine ⟨by rw [hz];exact a1,ces,clock,a2,by simpa using a3,fun i k x h1 => ?_⟩
    obtain ⟨e,b1,b2,b3⟩:=a4 i k (wQ φ x) (by rw [List.getElem?_map,h1];rfl)
    exact ⟨e,b1,b2,VG hr hz hh (hb _ (List.mem_of_getElem? h1)) b3⟩
  | dead=>trivial
  | lp l R s pe=>simp only [zY,RObj] at hv ⊢; rw [hz];exact hv
theorem zhy {g0:Gh} {m b:Nat} (hr:∀ i,i < m→g.ρ (φ i)=g0.ρ i) (hz:g0.Z=g.Z) (hN:∀ i,i < m→N (φ i)) (hh:∀ i o,i < m→h (φ i)=some o→∃ o0,h0 i=some o0∧o=zY φ o0) {o:AObj} (hb:zP m o) (hv:RObj C g0 h0 (· < m) w b o):RObj C g h N w b (zY φ o):=by
  cases o with
  | rows sz rows=>
    simp only [zY,RObj] at hv ⊢
    obtain ⟨a1,c,e,a2,a3,a4⟩:=hv
    refine ⟨by rw [←hz];exact a1,c,e,a2,fun i row h1 => ?_,fun i row j x h1 h2 => ?_⟩
    · rw [List.getElem?_map,Option.map_eq_some_iff] at h1
      obtain ⟨z,h1,rfl⟩:=h1
      simpa [vT] using a3 i z h1
    · rw [List.getElem?_map,Option.map_eq_some_iff] at h1
      obtain ⟨z,h1,rfl⟩:=h1
      simp only [vT] at h2
      rw [List.getElem?_map,Option.map_eq_some_iff] at h2
      obtain ⟨y,h2,rfl⟩:=h2
      obtain ⟨cv,b1,b2,b3⟩:=a4 i z j y h1 h2
      exact ⟨cv,b1,b2,zag hr hz hN hh (hb z (List.mem_of_getElem? h1) y (List.mem_of_getElem? h2)) b3⟩
  | tip sz l=>simp only [zY,RObj] at hv ⊢; rw [←hz];exact hv
  | map es=>
    simp only [zY,RObj] at hv ⊢
    obtain ⟨a1,ces,clock,a2,a3,a4⟩:=hv
    refine ⟨by rw [←hz];exact a1,ces,clock,a2,by simpa using a3,fun i k x h1 => ?_⟩
    rw [List.getElem?_map,Option.map_eq_some_iff] at h1
    obtain ⟨z,h1,h2⟩:=h1
    simp only [zg1] at h2
    cases h2
    obtain ⟨e,b1,b2,b3⟩:=a4 i z.1 z.2 h1
    exact ⟨e,b1,b2,zag hr hz hN hh (hb _ (List.mem_of_getElem? h1)) b3⟩
  | dead=>trivial
  | lp l R s pe=>simp only [zY,RObj] at hv ⊢; rw [←hz];exact hv
theorem J1 {n:Nat} (inj:∀ i j,i < n→j < n→φ i=φ j→i=j):∀ {l:List (Nat×AObj)},(∀ p∈l,p.1 < n)→∀ i,i < n→hup (rnH φ l) h (φ i)=match za l i with
    | some o=>some (zY φ o)
    | none=>h (φ i)
  | [],_,i,hi=>rfl
  | (k,o)::r,hl,i,hi=>by
    simp only [rnH,hup,za]
    by_cases e:k=i
    · subst e;rw [if_pos rfl,if_pos rfl]
    · rw [if_neg e,if_neg (fun h=>e (inj k i (hl (k,o) (by simp)) hi h))]
      exact J1 inj (fun p hp=>hl p (by simp [hp])) i hi
theorem vU {n:Nat}:∀ {l:List (Nat×AObj)},(∀ p∈l,p.1 < n)→∀ j,(∀ i,i < n→φ i≠j)→hup (rnH φ l) h j=h j
  | [],_,j,hj=>rfl
  | (k,o)::r,hl,j,hj=>by
    simp only [rnH,hup]
    rw [if_neg (hj k (hl (k,o) (by simp)))]
    exact vU (fun p hp=>hl p (by simp [hp])) j hj
open Classical in
noncomputable def inv (φ:Nat→Nat) (n j:Nat):Option Nat:=if h:∃ i,i < n∧φ i=j then some h.choose else none
theorem ziu {n i:Nat} (inj:∀ i j,i < n→j < n→φ i=φ j→i=j) (hi:i < n):inv φ n (φ i)=some i:=by
  unfold inv
  have h:∃ k,k < n∧φ k=φ i:=⟨i,hi,rfl⟩
  rw [dif_pos h]
  have:=h.choose_spec
  rw [inj _ _ this.1 hi this.2]
theorem qE {n i j:Nat} (h:inv φ n j=some i):i < n∧φ i=j:=by
  unfold inv at h
  split at h
  · rename_i hh;cases h;exact hh.choose_spec
  · cases h
theorem vp {n j:Nat} (h:inv φ n j=none):∀ i,i < n→φ i≠j:=by
  unfold inv at h
  split at h
  · cases h
  · rename_i hh;exact fun i hi e=>hh ⟨i,hi,e⟩
theorem frame {f m n1:Nat} {args0:List AV} {heap0 heap1:List (Nat×AObj)} {r0:AV} (hc:zfJ C f args0 heap0 m r0 heap1 n1)
    (hk0:∀ p∈heap0,p.1 < m∧zP m p.2) (hka:∀ x∈args0,zU m x=true) (hk1:∀ p∈heap1,p.1 < n1∧zP n1 p.2) (hr0:zU n1 r0=true)
    (hall:∀ i,i < m→(za heap1 i).isSome=true) (inj:∀ i j,i < n1→j < n1→φ i=φ j→i=j)
    (hB:∀ i o,za heap0 i=some o→h (φ i)=some (zY φ o)) (hN:∀ i,i < m→N (φ i)) (hfr:∀ i,m≤i→i < n1→¬ N (φ i)) (hN1:∀ j,N j→N' j) (hN2:∀ i,i < n1→N' (φ i))
    {vs:List Value} (R:RH C g h N w) (hv:RVs C g h N w (rnL φ args0) vs) (hm:m≤n1) :
    Calls C.P (C.fnum f) vs.toArray w fun e w'=>∃ v g',e=.returned v∧Evo g h N w g' (hup (rnH φ heap1) h) N' w'∧RH C g' (hup (rnH φ heap1) h) N' w'∧RV C g' (hup (rnH φ heap1) h) N' w' (wQ φ r0) v:=by
  let g0:Gh:=⟨fun i=>if i < m then g.ρ (φ i) else none,g.Z⟩
  have hrho:∀ i,i < m→g0.ρ i=g.ρ (φ i):=fun i hi=>if_pos hi
  have hrho':∀ i b,g0.ρ i=some b→i < m∧g.ρ (φ i)=some b:=fun i b hb=>by
    simp only [g0] at hb
    split at hb
    · exact ⟨‹_›,hb⟩
    · cases hb
  have hh0:∀ i o,za heap0 i=some o→i < m∧zP m o:=fun i o ho=>hk0 (i,o) (q8 ho)
  have R0:RH C g0 (za heap0) (· < m) w:={
    inj:=fun i j b h1 h2=>by
      obtain ⟨a1,a2⟩:=hrho' i b h1
      obtain ⟨b1,b2⟩:=hrho' j b h2
      exact inj i j (by omega) (by omega) (R.inj _ _ b a2 b2)
    lt:=fun i b h1=>by
      obtain ⟨a1,a2⟩:=hrho' i b h1
      exact ⟨(R.lt _ b a2).1,a1⟩
    key:=fun i o ho=>(hh0 i o ho).1
    obj:=fun i b o h1 ho=>by
      obtain ⟨a1,a2⟩:=hrho' i b h1
      exact zfK hrho rfl hB (hh0 i o ho).2 (R.obj _ b _ a2 (hB i o ho))
    tip0:=fun i sz len ho h1=>by
      have hi:=(hh0 i _ ho).1
      exact R.tip0 (φ i) sz len (hB i _ ho) (by rw [←hrho i hi];exact h1)
    zlt:=R.zlt
    fix:=⟨R.fix.1,R.fix.2.1,fun b hb ⟨i,hi⟩=>R.fix.2.2 b hb ⟨_,(hrho' i b hi).2⟩⟩}
  have hv0:RVs C g0 (za heap0) (· < m) w args0 vs:=⟨by have:=hv.1;simpa [rnL] using this,fun j x u h1 h2=>
    VG hrho rfl hB (hka x (List.mem_of_getElem? h1)) (hv.2 j (wQ φ x) u (by simp only [rnL];rw [List.getElem?_map,h1];rfl) h2)⟩
  refine (hc.2 g0 w vs R0 hv0).mono ?_
  rintro e w' ⟨v,r,hp1,nx,g1,rfl,⟨e1,e2,e3⟩,E0,R1,hr1⟩
  rw [e2,e3] at E0 R1
  rw [e1,e2,e3] at hr1
  clear e1 e2 e3
  have hl1:∀ p∈heap1,p.1 < n1:=fun p hp=>(hk1 p hp).1
  have hh1:∀ i o,za heap1 i=some o→i < n1∧zP n1 o:=fun i o ho=>hk1 (i,o) (q8 ho)
  let g':Gh:=⟨fun j=>match inv φ n1 j with | some i=>g1.ρ i | none=>g.ρ j,g1.Z⟩
  have hg1:∀ i,i < n1→g'.ρ (φ i)=g1.ρ i:=fun i hi=>by simp only [g',ziu inj hi]
  have hgo:∀ j,inv φ n1 j=none→g'.ρ j=g.ρ j:=fun j hj=>by simp only [g',hj]
  have hin:∀ i,i < n1→hup (rnH φ heap1) h (φ i)=match za heap1 i with | some o=>some (zY φ o) | none=>h (φ i):=J1 inj hl1
  have hoff:∀ j,inv φ n1 j=none→hup (rnH φ heap1) h j=h j:=fun j hj=>vU hl1 j (vp hj)
  have hfwd:∀ i o,i < n1→hup (rnH φ heap1) h (φ i)=some o→∃ o0,za heap1 i=some o0∧o=zY φ o0:=fun i o hi ho=>by
    rw [hin i hi] at ho
    cases ha:za heap1 i with
    | some o0=>rw [ha] at ho;simp only [Option.some.injEq] at ho;exact ⟨o0,rfl,ho.symm⟩
    | none=>
      rw [ha] at ho
      simp only at ho
      rcases Nat.lt_or_ge i m with h1 | h1
      · have:=hall i h1;rw [ha] at this;cases this
      · exact absurd (R.key _ _ ho) (hfr i h1 hi)
  have hNi:∀ j,N j→∀ i,inv φ n1 j=some i→i < m:=fun j hj i hi=>by
    obtain ⟨h1,h2⟩:=qE hi
    rcases Nat.lt_or_ge i m with h3 | h3
    · exact h3
    · exact absurd (by rw [h2];exact hj) (hfr i h3 h1)
  have E:Evo g h N w g' (hup (rnH φ heap1) h) N' w':={
    os:=E0.os
    tape:=E0.tape
    output:=E0.output
    size:=E0.size
    old:=fun b hb ho=>E0.old b hb (fun ⟨i,hi⟩=>ho ⟨φ i,(hrho' i b hi).2⟩)
    own:=fun b ⟨j,hj⟩=>by
      cases hi:inv φ n1 j with
      | some i=>
        obtain ⟨h1,rfl⟩:=qE hi
        rw [hg1 i h1] at hj
        rcases E0.own b ⟨i,hj⟩ with ⟨k,hk⟩ | hk
        · exact .inl ⟨φ k,(hrho' k b hk).2⟩
        · exact .inr hk
      | none=>rw [hgo j hi] at hj;exact .inl ⟨j,hj⟩
    zmono:=E0.zmono
    cell:=E0.cell
    shape:=E0.shape
    next:=hN1
    rho:=fun j b hb o ho hnd hj=>by
      cases hi:inv φ n1 j with
      | some i=>
        have him:=hNi j hj i hi
        obtain ⟨h1,rfl⟩:=qE hi
        obtain ⟨o0,e0,rfl⟩:=hfwd i o h1 ho
        rw [hg1 i h1]
        rcases E0.rho i b (by rw [hrho i him];exact hb) o0 e0 (fun e=>hnd (by rw [e];rfl)) him with h3 | ⟨sz,l,sz',l',h3,h4,h5⟩
        · exact .inl h3
        · subst h4;exact .inr ⟨sz,l,sz',l',by rw [hB i _ h3];rfl,rfl,h5⟩
      | none=>rw [hgo j hi];exact .inl hb
    rho0:=fun j hb hj o ho hnd=>by
      cases hi:inv φ n1 j with
      | some i=>
        have him:=hNi j hj i hi
        obtain ⟨h1,rfl⟩:=qE hi
        obtain ⟨o0,e0,rfl⟩:=hfwd i o h1 ho
        rw [hg1 i h1]
        rcases E0.rho0 i (by rw [hrho i him];exact hb) him o0 e0 (fun e=>hnd (by rw [e];rfl)) with h3 | ⟨sz,l,sz',l',h3,h4,h5⟩
        · exact .inl h3
        · subst h4;exact .inr ⟨sz,l,sz',l',by rw [hB i _ h3];rfl,rfl,h5⟩
      | none=>rw [hgo j hi];exact .inl hb
    rows:=fun j hj sz rows ho=>by
      cases hi:inv φ n1 j with
      | some i=>
        have him:=hNi j hj i hi
        obtain ⟨h1,rfl⟩:=qE hi
        obtain ⟨o0,e0,e1⟩:=hfwd i _ h1 ho
        cases o0<;>simp only [zY] at e1<;>cases e1
        obtain ⟨r2,h3,h4⟩:=E0.rows i him _ _ e0
        exact ⟨_,by rw [hB i _ h3];rfl,by simpa using h4⟩
      | none=>rw [hoff j hi] at ho;exact ⟨rows,ho,rfl⟩
    tips:=fun j hj sz len ho=>by
      cases hi:inv φ n1 j with
      | some i=>
        have him:=hNi j hj i hi
        obtain ⟨h1,rfl⟩:=qE hi
        obtain ⟨o0,e0,e1⟩:=hfwd i _ h1 ho
        cases o0<;>simp only [zY] at e1<;>cases e1
        obtain ⟨l2,h3,h4⟩:=E0.tips i him _ _ e0
        exact ⟨l2,by rw [hB i _ h3];rfl,h4⟩
      | none=>rw [hoff j hi] at ho;exact ⟨len,ho,Nat.le_refl _⟩
    maps:=fun j hj es ho=>by
      cases hi:inv φ n1 j with
      | some i=>
        have him:=hNi j hj i hi
        obtain ⟨h1,rfl⟩:=qE hi
        obtain ⟨o0,e0,e1⟩:=hfwd i _ h1 ho
        cases o0<;>simp only [zY] at e1<;>cases e1
        obtain ⟨e2,h3⟩:=E0.maps i him _ e0
        exact ⟨_,by rw [hB i _ h3];rfl⟩
      | none=>rw [hoff j hi] at ho;exact ⟨es,ho⟩
    lps:=fun j hj ll RR s pe ho=>by
      cases hi:inv φ n1 j with
      | some i=>
        have him:=hNi j hj i hi
        obtain ⟨h1,rfl⟩:=qE hi
        obtain ⟨o0,e0,e1⟩:=hfwd i _ h1 ho
        cases o0<;>simp only [zY] at e1<;>cases e1
        obtain ⟨e2,e3,h3⟩:=E0.lps i him _ _ _ _ e0
        exact ⟨_,_,by rw [hB i _ h3];rfl⟩
      | none=>rw [hoff j hi] at ho;exact ⟨s,pe,ho⟩}
  have hR:RH C g' (hup (rnH φ heap1) h) N' w':={
    inj:=fun i j b h1 h2=>by
      cases hi:inv φ n1 i with
      | some i0=>
        obtain ⟨a1,rfl⟩:=qE hi
        rw [hg1 i0 a1] at h1
        cases hj:inv φ n1 j with
        | some j0=>
          obtain ⟨b1,rfl⟩:=qE hj
          rw [hg1 j0 b1] at h2
          rw [R1.inj i0 j0 b h1 h2]
        | none=>
          rw [hgo j hj] at h2
          rcases E0.own b ⟨i0,h1⟩ with ⟨k,hk⟩ | hk
          · obtain ⟨k1,k2⟩:=hrho' k b hk
            have:=R.inj _ _ b k2 h2
            exact absurd this (vp hj k (by omega))
          · have:=(R.lt j b h2).1;omega
      | none=>
        rw [hgo i hi] at h1
        cases hj:inv φ n1 j with
        | some j0=>
          obtain ⟨b1,rfl⟩:=qE hj
          rw [hg1 j0 b1] at h2
          rcases E0.own b ⟨j0,h2⟩ with ⟨k,hk⟩ | hk
          · obtain ⟨k1,k2⟩:=hrho' k b hk
            have:=R.inj _ _ b k2 h1
            exact absurd this (vp hi k (by omega))
          · have:=(R.lt i b h1).1;omega
        | none=>
          rw [hgo j hj] at h2
          exact R.inj i j b h1 h2
    lt:=fun i b h1=>by
      cases hi:inv φ n1 i with
      | some i0=>
        obtain ⟨a1,rfl⟩:=qE hi
        rw [hg1 i0 a1] at h1
        exact ⟨(R1.lt i0 b h1).1,hN2 i0 a1⟩
      | none=>
        rw [hgo i hi] at h1
        obtain ⟨a1,a2⟩:=R.lt i b h1
        exact ⟨Nat.lt_of_lt_of_le a1 E0.size,hN1 i a2⟩
    key:=fun i o ho=>by
      cases hi:inv φ n1 i with
      | some i0=>obtain ⟨a1,rfl⟩:=qE hi;exact hN2 i0 a1
      | none=>rw [hoff i hi] at ho;exact hN1 i (R.key i o ho)
    obj:=fun i b o h1 ho=>by
      cases hi:inv φ n1 i with
      | some i0=>
        obtain ⟨a1,rfl⟩:=qE hi
        rw [hg1 i0 a1] at h1
        obtain ⟨o0,e0,rfl⟩:=hfwd i0 o a1 ho
        exact zhy (fun i hi=>hg1 i hi) rfl hN2 hfwd (hh1 i0 o0 e0).2 (R1.obj i0 b o0 h1 e0)
      | none=>
        rw [hgo i hi] at h1
        rw [hoff i hi] at ho
        have hro:=R.obj i b o h1 ho
        have hno:¬ wI g0 b:=fun ⟨k,hk⟩=>by
          obtain ⟨k1,k2⟩:=hrho' k b hk
          exact vp hi k (by omega) (R.inj _ _ b k2 h1)
        obtain ⟨q1,q2⟩:=E0.old b (R.lt i b h1).1 hno
        have q2':g'.Z b=g.Z b:=q2
        cases o with
        | rows sz rows=>
          simp only [RObj] at hro ⊢
          obtain ⟨a1,c,e,a2,a3,a4⟩:=hro
          refine ⟨by rw [q2'];exact a1,c,e,by rw [q1];exact a2,a3,fun i row j x u1 u2 => ?_⟩
          obtain ⟨cv,b1,b2,b3⟩:=a4 i row j x u1 u2
          exact ⟨cv,b1,b2,b3.mono E⟩
        | tip sz l=>
          simp only [RObj] at hro ⊢
          rw [q1,q2']
          exact hro
        | map es=>
          simp only [RObj] at hro ⊢
          obtain ⟨a1,ces,clock,a2,a3,a4⟩:=hro
          refine ⟨by rw [q2'];exact a1,ces,clock,by rw [q1];exact a2,a3,fun i k x u1 => ?_⟩
          obtain ⟨e,b1,b2,b3⟩:=a4 i k x u1
          exact ⟨e,b1,b2,b3.mono E⟩
        | dead=>trivial
        | lp l R s pe=>
          simp only [RObj] at hro ⊢
          rw [q1,q2']
          exact hro
    tip0:=fun i sz len ho h1=>by
      cases hi:inv φ n1 i with
      | some i0=>
        obtain ⟨a1,rfl⟩:=qE hi
        rw [hg1 i0 a1] at h1
        obtain ⟨o0,e0,e1⟩:=hfwd i0 _ a1 ho
        cases o0<;>simp only [zY] at e1<;>cases e1
        exact R1.tip0 i0 _ _ e0 h1
      | none=>
        rw [hgo i hi] at h1
        rw [hoff i hi] at ho
        exact R.tip0 i sz len ho h1
    zlt:=R1.zlt
    fix:=R.fix.evo E}
  exact ⟨v,g',rfl,E,hR,zag (fun i hi=>hg1 i hi) rfl hN2 hfwd hr0 hr1⟩
end
end
inductive AllP:List Prop→Prop where
  | nil:AllP []
  | cons {p:Prop} {ps:List Prop} (h:p) (t:AllP ps):AllP (p::ps)
theorem AllP.app:∀ {ps qs:List Prop},AllP (ps++qs)→AllP ps∧AllP qs
  | [],qs,h=>⟨.nil,h⟩
  | p::ps,qs,h=>by
    cases h with
    | cons h t=>exact ⟨.cons h (AllP.app t).1,(AllP.app t).2⟩
theorem AllP.one {p:Prop} (h:AllP [p]):p:=by cases h;assumption
structure DOk (C:Ctx) (f:Nat) (args0:List AV) (heap0:List (Nat×AObj)) (m:Nat) (r0:AV) (heap1:List (Nat×AObj)) (d:Nat):Prop where
  det:zfJ C f args0 heap0 m r0 heap1 (m+d)
  k0:∀ p∈heap0,p.1 < m∧zP m p.2
  ka:∀ x∈args0,zU m x=true
  k1:∀ p∈heap1,p.1 < m+d∧zP (m+d) p.2
  kr:zU (m+d) r0=true
  all:∀ i,i < m→(za heap1 i).isSome=true
  all0:∀ i,i < m→(za heap0 i).isSome=true
def phi (l:List Nat) (m next:Nat):Nat→Nat:=fun i=>if i < m then l.getD i 0 else next+(i - m)
def ZL:List Nat→Bool
  | []=>true
  | x::r=>!(r.contains x)&&ZL r
inductive Thin (h0:List (Nat×AObj)):List (Nat×AObj)→List (Nat×AObj)→Prop where
  | nil:Thin h0 [] []
  | keep {k:Nat} {o:AObj} {r s:List (Nat×AObj)} (t:Thin h0 r s):Thin h0 ((k,o)::r) ((k,o)::s)
  | drop {k:Nat} {o:AObj} {r s:List (Nat×AObj)} (hk:za h0 k=some o) (hs:za s k=none) (t:Thin h0 r s):Thin h0 ((k,o)::r) s
theorem Thin.get {h0 h1 h2:List (Nat×AObj)} (t:Thin h0 h1 h2):∀ i,za h1 i=za h2 i∨(za h2 i=none∧za h1 i=za h0 i):=by
  induction t with
  | nil=>exact fun i=>.inl rfl
  | keep t ih=>
    intro i
    simp only [za]
    split
    · exact .inl rfl
    · exact ih i
  | drop hk hs t ih=>
    intro i
    simp only [za]
    split
    · rename_i e;subst e;exact .inr ⟨hs,hk.symm⟩
    · exact ih i
theorem Thin.sub {h0 h1 h2:List (Nat×AObj)} (t:Thin h0 h1 h2):∀ p∈h2,p∈h1:=by
  induction t with
  | nil=>exact fun p hp=>hp
  | keep t ih=>
    intro p hp
    rcases List.mem_cons.1 hp with e | e
    · rw [e];simp
    · exact List.mem_cons_of_mem _ (ih p e)
  | drop hk hs t ih=>exact fun p hp=>List.mem_cons_of_mem _ (ih p hp)
theorem zah {φ:Nat→Nat} {n:Nat} {h:Nat→Option AObj} {h0 h1 h2:List (Nat×AObj)} (inj:∀ i j,i < n→j < n→φ i=φ j→i=j) (hl:∀ p∈h1,p.1 < n) (hB:∀ i o,za h0 i=some o→h (φ i)=some (zY φ o)) (t:Thin h0 h1 h2):hup (rnH φ h1) h=hup (rnH φ h2) h:=by
  funext j
  cases hj:inv φ n j with
  | some i=>
    obtain ⟨hi,rfl⟩:=qE hj
    rw [J1 inj hl i hi,J1 inj (fun p hp=>hl p (t.sub p hp)) i hi]
    rcases t.get i with e | ⟨e1,e2⟩
    · rw [e]
    · rw [e1,e2]
      cases ho:za h0 i with
      | none=>rfl
      | some o=>simp only;rw [hB i o ho]
  | none=>rw [vU hl j (vp hj),vU (fun p hp=>hl p (t.sub p hp)) j (vp hj)]
def CallP (C:Ctx) (f:Nat) (args:List AV) (l:List Nat) (m next:Nat) (objs:List (Nat×AObj)) (r:AV) (ups:List (Nat×AObj)) (d:Nat):Prop:=
  ∃ args0 heap0 r0 heap1 heap2,DOk C f args0 heap0 m r0 heap1 d∧Thin heap0 heap1 heap2∧rnL (phi l m next) args0=args∧rnH (phi l m next) heap0=objs∧wQ (phi l m next) r0=r∧rnH (phi l m next) heap2=ups
theorem zf {C:Ctx} {f m d:Nat} {args0:List AV} {heap0 heap1 heap2 objs ups:List (Nat×AObj)} {r0:AV} (hd:DOk C f args0 heap0 m r0 heap1 d) (l:List Nat) (next:Nat) (ht:Thin heap0 heap1 heap2) (ho:rnH (phi l m next) heap0=objs) (hu:rnH (phi l m next) heap2=ups) :
    CallP C f (rnL (phi l m next) args0) l m next objs (wQ (phi l m next) r0) ups d:=⟨args0,heap0,r0,heap1,heap2,hd,ht,rfl,ho,rfl,hu⟩
def xw (heap:List (Nat×AObj)):List Nat→Option (List (Nat×AObj))
  | []=>some []
  | i::l=>match za heap i with
    | none=>none
    | some o=>match xw heap l with
      | some r=>some ((i,o)::r)
      | none=>none
theorem yp {heap:List (Nat×AObj)}:∀ {l:List Nat} {objs:List (Nat×AObj)},xw heap l=some objs→∀ p∈objs,za heap p.1=some p.2
  | [],objs,h=>by cases h;intro p hp;cases hp
  | i::l,objs,h=>by
    simp only [xw] at h
    split at h
    · cases h
    · rename_i o ho
      split at h
      · rename_i r hr
        cases h
        intro p hp
        rcases List.mem_cons.1 hp with rfl | hp
        · exact ho
        · exact yp hr p hp
      · cases h
theorem J2 {φ:Nat→Nat}:∀ {l:List (Nat×AObj)} {k:Nat} {o:AObj},(k,o)∈l→(φ k,zY φ o)∈rnH φ l
  | (k',o')::r,k,o,h=>by
    simp only [rnH]
    rcases List.mem_cons.1 h with h | h
    · cases h;simp
    · exact List.mem_cons_of_mem _ (J2 h)
theorem WG:∀ {l:List Nat},ZL l=true→∀ i j:Nat,i < l.length→j < l.length→l.getD i 0=l.getD j 0→i=j
  | [],_,i,j,hi,_,_=>by simp at hi
  | x::r,h,i,j,hi,hj,e=>by
    simp only [ZL,Bool.and_eq_true,Bool.not_eq_true',List.contains_eq_mem,decide_eq_false_iff_not] at h
    have key:∀ k,k < r.length→r.getD k 0∈r:=fun k hk=>by simp [hk]
    cases i with
    | zero=>
      cases j with
      | zero=>rfl
      | succ j=>
        simp only [List.getD_cons_zero,List.getD_cons_succ] at e
        exact absurd (by rw [e];exact key j (by simpa using hj)) h.1
    | succ i=>
      cases j with
      | zero=>
        simp only [List.getD_cons_zero,List.getD_cons_succ] at e
        exact absurd (by rw [←e];exact key i (by simpa using hi)) h.1
      | succ j=>
        simp only [List.getD_cons_succ] at e
        rw [WG h.2 i j (by simpa using hi) (by simpa using hj) e]
structure PhiOk (l:List Nat) (m next:Nat):Prop where
  len:l.length=m
  nd:ZL l=true
  lt:∀ x∈l,x < next
def kF (l:List Nat) (m next:Nat):Bool:=l.length == m&&ZL l&&l.all fun x=>decide (x < next)
theorem zai {l:List Nat} {m next:Nat} (h:kF l m next=true):PhiOk l m next:=by
  simp only [kF,Bool.and_eq_true,beq_iff_eq,List.all_eq_true,decide_eq_true_eq] at h
  exact ⟨h.1.1,h.1.2,h.2⟩
theorem WH {l:List Nat} {m next:Nat} (P:PhiOk l m next) {i:Nat} (hi:i < m):phi l m next i < next:=by
  simp only [phi,if_pos hi]
  exact P.lt _ (by simp [P.len,hi])
theorem J3 {l:List Nat} {m next:Nat} (P:PhiOk l m next) (i j:Nat) (e:phi l m next i=phi l m next j):i=j:=by
  rcases Nat.lt_or_ge i m with h1 | h1<;>rcases Nat.lt_or_ge j m with h2 | h2
  · simp only [phi,if_pos h1,if_pos h2] at e
    exact WG P.nd i j (by rw [P.len];exact h1) (by rw [P.len];exact h2) e
  · have:=WH P h1
    simp only [phi,if_neg (Nat.not_lt.2 h2)] at e this
    omega
  · have:=WH P h2
    simp only [phi,if_neg (Nat.not_lt.2 h1)] at e this
    omega
  · simp only [phi,if_neg (Nat.not_lt.2 h1),if_neg (Nat.not_lt.2 h2)] at e
    omega
theorem ACall.det {C:Ctx} {f m d next:Nat} {args:List AV} {heap objs ups:List (Nat×AObj)} {l:List Nat} {r:AV} {K:AV→List (Nat×AObj)→Nat→Prop} (hc:CallP C f args l m next objs r ups d) (hp:kF l m next=true) (ho:xw heap l=some objs)
    (hK:K r (zG ups heap) (next+d)):ACall C f args heap next K:=by
  obtain ⟨args0,heap0,r0,heap1,heap2,D,T,rfl,rfl,rfl,rfl⟩:=hc
  have P:=zai hp
  refine ⟨D.det.1,fun g w vs R hv => ?_⟩
  have hth:=zah (φ:=phi l m next) (n:=m+d) (h:=za heap) (fun i j _ _ e=>J3 P i j e) (fun p hp=>(D.k1 p hp).1) (fun i o hi=>yp ho _ (J2 (q8 hi))) T
  have:=frame (φ:=phi l m next) (N':=(· < next+d)) D.det D.k0 D.ka D.k1 D.kr D.all (fun i j _ _ e=>J3 P i j e)
    (fun i o hi=>yp ho _ (J2 (q8 hi))) (fun i hi=>WH P hi) (fun i h1 _=>by simp only [phi,if_neg (Nat.not_lt.2 h1)];omega) (fun j hj=>by omega)
    (fun i hi=>by
      rcases Nat.lt_or_ge i m with h1 | h1
      · have:=WH P h1;omega
      · simp only [phi,if_neg (Nat.not_lt.2 h1)];omega) R hv (by omega)
  refine this.mono ?_
  rintro e w' ⟨v,g',rfl,E,R',hr⟩
  refine ⟨v,_,_,_,g',rfl,hK,?_,?_,?_⟩
  · rw [jt,←hth];exact E
  · rw [jt,←hth];exact R'
  · rw [jt,←hth];exact hr
theorem LCall.det {C:Ctx} {f m next d:Nat} {args:List AV} {heap objs ups:List (Nat×AObj)} {l:List Nat} {r:AV} (hc:CallP C f args l m next objs r ups d) (hp:kF l m next=true) (ho:xw heap l=some objs) :
    LCall C f args (za heap) l r ups (List.range' next d):=by
  obtain ⟨args0,heap0,r0,heap1,heap2,D,T,rfl,rfl,rfl,rfl⟩:=hc
  have P:=zai hp
  refine ⟨D.det.1,fun g h N w vs hag hex R hv => ?_⟩
  have hmem:∀ i o,za heap0 i=some o→h (phi l m next i)=some (zY (phi l m next) o):=fun i o hi=>by
    have hi':=(D.k0 _ (q8 hi)).1
    rw [hag _ (by simp only [phi,if_pos hi'];simp [P.len,hi'])]
    exact yp ho _ (J2 (q8 hi))
  have hNm:∀ i,i < m→N (phi l m next i):=fun i hi=>by
    obtain ⟨o,ho⟩:=Option.isSome_iff_exists.1 (D.all0 i hi)
    exact R.key _ _ (hmem i o ho)
  have hth:=zah (φ:=phi l m next) (n:=m+d) (h:=h) (fun i j _ _ e=>J3 P i j e) (fun p hp=>(D.k1 p hp).1) hmem T
  rw [←hth]
  have hnew:∀ i,m≤i→i < m+d→phi l m next i∈List.range' next d:=fun i h1 h2=>by
    rw [List.mem_range'_1];simp only [phi,if_neg (show ¬ i < m by omega)];omega
  exact frame (φ:=phi l m next) (N':=jO N (List.range' next d)) D.det D.k0 D.ka D.k1 D.kr D.all (fun i j _ _ e=>J3 P i j e) hmem hNm (fun i h1 h2=>hex _ (hnew i h1 h2)) (fun j hj=>.inl hj)
    (fun i hi=>by
      rcases Nat.lt_or_ge i m with h1 | h1
      · exact .inl (hNm i h1)
      · exact .inr (hnew i h1 hi)) R hv (by omega)
theorem DCall.det {C:Ctx} {f m next:Nat} {args:List AV} {heap objs ups:List (Nat×AObj)} {l:List Nat} {r:AV} {KD:List Nat→AV→List (Nat×AObj)→Prop} (hc:CallP C f args l m next objs r ups 0) (hp:kF l m next=true) (ho:xw heap l=some objs)
    (hK:KD l r ups):DCall C f args heap KD:=⟨l,_,_,LCall.det hc hp ho,hK⟩
def zb {α:Type} (f:α→List IV) (l:List α):List (List AV):=l.map fun x=>zn (f x)
theorem zcL (φ:Nat→Nat) (r:List IV):vT φ (zn r)=zn r:=by
  simp only [vT,zn,List.map_map]
  exact List.map_congr_left fun x _=>rfl
theorem zaj {α:Type} (φ:Nat→Nat) (f:α→List IV) (l:List α):(zb f l).map (vT φ)=zb f l:=by
  simp only [zb,List.map_map]
  exact List.map_congr_left fun x _=>zcL φ (f x)
theorem rhN {φ:Nat→Nat}:rnH φ []=[]:=rfl
theorem rhR {φ:Nat→Nat} {k:Nat} {o:AObj} {r s:List (Nat×AObj)} (h:rnH φ r=s):rnH φ ((k,o)::r)=(φ k,zY φ o)::s:=by rw [←h];rfl
theorem rhI {φ:Nat→Nat} {k sz:Nat} {α:Type} {f:α→List IV} {l:List α} {r s:List (Nat×AObj)} (h:rnH φ r=s):rnH φ ((k,.rows sz (zb f l))::r)=(φ k,.rows sz (zb f l))::s:=by
  rw [←h];simp only [rnH,zY,zaj]
theorem vV {α:Type} (m sz:Nat) (f:α→List IV) (l:List α):zP m (.rows sz (zb f l)):=by
  simp only [zP,zb]
  intro row hr x hx
  obtain ⟨y,_,rfl⟩:=List.mem_map.1 hr
  obtain ⟨z,_,rfl⟩:=List.mem_map.1 hx
  rfl
def zD {α β:Type} (kf:α→IV) (vf:β→IV) (es:List (α×β)):List (IV×AV):=es.map fun e=>(kf e.1,.imm (vf e.2))
theorem zbE {α β:Type} (m:Nat) (kf:α→IV) (vf:β→IV) (es:List (α×β)):zP m (.map (zD kf vf es)):=by
  simp only [zP,zD]
  intro e he
  obtain ⟨y,_,rfl⟩:=List.mem_map.1 he
  rfl
theorem zfL {h0 h:Nat→Option AObj} (hs:∀ i o,h0 i=some o→h i=some o):∀ (d:Nat) (x:AV) (y:IV),zF h0 d x=some y→zF h d x=some y:=by
  have lst:∀ {β γ:Type} {f f':β→Option γ},(∀ x y,f x=some y→f' x=some y)→∀ (l:List β) (r:List γ),mapO f l=some r→mapO f' l=some r:=by
    intro β γ f f' hf l
    induction l with
    | nil=>intro r h;exact h
    | cons a l ih=>
      intro r h
      simp only [mapO] at h ⊢
      split at h
      · rename_i b hb
        split at h
        · rename_i bs hbs
          cases h
          rw [hf _ _ hb]
          simp only
          rw [ih _ hbs]
        · cases h
      · cases h
  intro d
  induction d with
  | zero=>intro x y h;cases h
  | succ d ih=>
    intro x y h
    cases x<;>simp only [zF] at h ⊢ <;> first | exact h | skip
    case mslice id off len=>
      split at h
      · rename_i sz rows ho
        rw [hs _ _ ho]
        simp only
        split at h
        · rename_i hle
          rw [if_pos hle]
          rw [Option.map_eq_some_iff] at h ⊢
          obtain ⟨r,h1,h2⟩:=h
          exact ⟨r,lst (fun row ys hrow=>lst (fun x y hx=>ih x y hx) row ys hrow) _ _ h1,h2⟩
        · cases h
      · cases h
    case agg cs=>
      rw [Option.map_eq_some_iff] at h ⊢
      obtain ⟨r,h1,h2⟩:=h
      exact ⟨r,lst (fun x y hx=>ih x y hx) _ _ h1,h2⟩
    case tuple cs=>
      rw [Option.map_eq_some_iff] at h ⊢
      obtain ⟨r,h1,h2⟩:=h
      exact ⟨r,lst (fun x y hx=>ih x y hx) _ _ h1,h2⟩
theorem Qm {h0 h:Nat→Option AObj} (hs:∀ i o,h0 i=some o→h i=some o) {d:Nat}:∀ {args:List AV} {ivs:List IV},mapO (zF h0 d) args=some ivs→mapO (zF h d) args=some ivs
  | [],ivs,h=>h
  | a::l,ivs,h=>by
    simp only [mapO] at h ⊢
    split at h
    · rename_i b hb
      split at h
      · rename_i bs hbs
        cases h
        rw [zfL hs d _ _ hb]
        simp only
        rw [Qm hs hbs]
      · cases h
    · cases h
theorem Qn {heap:List (Nat×AObj)} {l:List Nat} {objs:List (Nat×AObj)} (h:xw heap l=some objs) (i:Nat) (o:AObj) (ho:za objs i=some o):za heap i=some o:=yp h _ (q8 ho)
theorem LCall.snapS {C:Ctx} {f d:Nat} {args:List AV} {heap objs:List (Nat×AObj)} {l:List Nat} {ivs:List IV} {r:IV} (hp:APure C f ivs r) (ho:xw heap l=some objs) (hl:∀ p∈objs,p.1∈l) (hx:mapO (zF (za objs) d) args=some ivs) (hf:wO r=true):LCall C f args (za heap) l (.imm r) [] []:=by
  refine ⟨hp.1,fun g h N w vs hag hex R hv => ?_⟩
  have hsub:∀ i o,za objs i=some o→h i=some o:=fun i o hi=>by
    rw [hag i (hl _ (q8 hi))];exact Qn ho i o hi
  have hx':mapO (zF h d) args=some ivs:=Qm hsub hx
  exact (LCall.snap (h0:=h) hp hx' hf).2 g h N w vs (fun _ _=>rfl) hex R hv
theorem Yx {heap:List (Nat×AObj)}:∀ {l:List Nat} {objs:List (Nat×AObj)},xw heap l=some objs→∀ p∈objs,p.1∈l
  | [],objs,h=>by cases h;intro p hp;cases hp
  | i::l,objs,h=>by
    simp only [xw] at h
    split at h
    · cases h
    · rename_i o ho
      split at h
      · rename_i r hr
        cases h
        intro p hp
        rcases List.mem_cons.1 hp with rfl | hp
        · simp
        · exact List.mem_cons_of_mem _ (Yx hr p hp)
      · cases h
section
inductive Orc where
  | g (b:Bool)
  | n (k:Int)
  | r (row:List IV)
  | v (x:IV)
  | w (ids:List Nat) (ivs:List IV) (x:IV)
  | s (rows:List (List IV))
  | k (row:Nat)
  | ar (row:List AV)
  | aw (row:List AV) (rows:List (List AV))
  | m (n:Nat) (rows:List (List AV))
  | a (rows:List (List IV)) (n:Nat)
  | b (rows:List (List AV)) (n:Nat)
  | c (l:List Nat) (m:Nat) (r:AV) (ups:List (Nat×AObj)) (d:Nat)
  | l (x:AV) (b:Bool)
  | u (es:List (IV×AV))
def ziv (rows:List (List IV)) (n:Int) (row:List IV):Prop:=0≤n∧rows[n.toNat]?=some row
def zak (rows:List (List IV)) (k:Int):Prop:=(rows.length:Int)=k
def ziw (rows:List (List IV)) (sz:Nat) (a b:Int) (r:List (List IV)):Prop:=0≤a∧a≤b∧b≤(rows.length:Int)∧(rows.all fun row=>row.length == sz)=true∧(rows.take b.toNat).drop a.toNat=r
def VH (op:BinOp) (a b r:IV):Prop:=vN op a b=some r
def J4 (n:Int) (off len row:Nat):Prop:=0≤n∧n < (len:Int)∧off+n.toNat=row
def VI (rows:List (List AV)) (r:Nat) (row:List AV):Prop:=rows[r]?=some row
def zix (rows:List (List AV)) (r:Nat) (row new:List AV) (rows':List (List AV)):Prop:=rows[r]?=some row∧rows.set r new=rows'
def zfM (n:Int) (by_:Nat) (zero:List AV) (k:Nat) (rows:List (List AV)):Prop:=(0≤n∧n < 2 ^ 31∧n*by_≤140737488355328)∧n.toNat=k∧List.replicate k zero=rows
def zg2 (sz:Nat) (rows new rows':List (List AV)) (len:Nat):Prop:=len=rows.length∧new.length=len∧(new.all fun row=>row.length == sz)=true∧new=rows'
def zfN (sz by_:Nat) (old new rows:List (List IV)) (len k:Nat):Prop:=(new.all fun row=>row.length == sz)=true∧old.length=len∧(len+new.length)*by_≤140737488355328∧old++new=rows∧len+new.length=k
def zko (sz by_:Nat) (old new rows:List (List AV)) (len k:Nat):Prop:=(new.all fun row=>row.length == sz)=true∧len=old.length∧(len+new.length)*by_≤140737488355328∧old++new=rows∧len+new.length=k
def zcM (str:Bool) (zero:AV) (k:IV) (es:List (IV×AV)) (x:AV) (b:Bool):Prop:=(wj str k&&xg k es)=true∧((qk k es=some x∧b=true)∨(qk k es=none∧zero=x∧b=false))
def zfO (str:Bool) (k:IV) (v:AV) (es es':List (IV×AV)):Prop:=(wj str k&&xg k es)=true∧qD k v es=es'
def zcN (args:List AV) (objs:List (Nat×AObj)) (ivs:List IV):Prop:=mapO (zF (za objs) 5) args=some ivs
def inD (D:List Nat):Opd→Bool
  | .t n=>D.contains n
  | .c _=>true
abbrev xD:=Option (AV×List (Nat×AObj)×List Nat×List Orc×List Prop×Nat)
def jj (op:AOp) (orc:List Orc) (st:St):xD:=match evalOp op (zd st.env) (za st.heap) st.next with
  | some (r,ups)=>some (r,ups,zj op (zd st.env),orc,[],0)
  | none=>none
def zg3 (op:AOp) (orc:List Orc) (st:St) (lit:Bool) (a b:AV):AV→xD
  | .imm (.bool x)=>match lit with
    | true=>match x with
      | true=>some (a,[],zj op (zd st.env),orc,[],0)
      | false=>some (b,[],zj op (zd st.env),orc,[],0)
    | false=>match orc with
      | .g true::o=>some (a,[],zj op (zd st.env),o,[x=true],0)
      | .g false::o=>some (b,[],zj op (zd st.env),o,[x=false],0)
      | _=>none
  | _=>none
def ziy (op:AOp) (orc:List Orc) (st:St):AV→xD
  | .imm (.slice rows) | .gslice _ rows=>match orc with
    | .n k::o=>some (.imm (.int .i64 k),[],zj op (zd st.env),o,[zak rows k],0)
    | _=>none
  | _=>jj op orc st
def ziz (op:AOp) (sz:Nat) (orc:List Orc) (st:St) (i:AV):AV→xD
  | .imm (.slice rows) | .gslice _ rows=>match i with
    | .imm (.int _ n)=>match orc with
      | .r row::o=>if row.length=sz then some (.eptr row,[],zj op (zd st.env),o,[ziv rows n row],0) else none
      | _=>none
    | _=>none
  | .mslice j off len=>match orc with
    | .k row::o=>match i with
      | .imm (.int _ n)=>match za st.heap j with
        | some (.rows sz' _)=>if sz'=sz then some (.ptr j row 0,[],zj op (zd st.env),o,[J4 n off len row],0) else none
        | _=>none
      | _=>none
    | _=>jj op orc st
  | _=>jj op orc st
def zg4 (op:AOp) (len sz:Nat) (orc:List Orc) (st:St) (i x:AV):xD:=match orc with
  | .k row::o=>match x with
    | .ptr j 0 0=>match i with
      | .imm (.int _ n)=>match za st.heap j with
        | some (.rows sz' _)=>if sz'=sz then some (.ptr j row 0,[],zj op (zd st.env),o,[J4 n 0 len row],0) else none
        | _=>none
      | _=>none
    | _=>none
  | _=>jj op orc st
def ziA (op:AOp) (bop:BinOp) (orc:List Orc) (st:St) (x y:AV):xD:=match bop with
  | .quo | .rem | .shl | .shr=>match x,y with
    | .imm a,.imm b=>match orc with
      | .v r::o=>some (.imm r,[],zj op (zd st.env),o,[VH bop a b r],0)
      | _=>none
    | _,_=>none
  | _=>jj op orc st
def zcO (st:St) (dflt:Int):Option Opd→Option Int
  | none=>some dflt
  | some y=>match zd st.env y with
    | .imm (.int _ n)=>some n
    | _=>none
def ziB (op:AOp) (sz:Nat) (orc:List Orc) (st:St) (lo hi:Option Opd):AV→xD
  | .imm (.slice rows)=>match zcO st 0 lo,zcO st (rows.length:Int) hi,orc with
    | some a,some b,.s r::o=>some (.imm (.slice r),[],zj op (zd st.env),o,[ziw rows sz a b r],0)
    | _,_,_=>none
  | _=>none
def zcP (C:Ctx) (orc:List Orc) (st:St) (args:List AV):AV→xD
  | .func f first caps=>match orc with
    | .v x::o=>match mapO (zF (za st.heap) 5) (first++args++caps) with
      | some ivs=>match (first++args++caps).all (xv 5) with
        | true=>some (.imm x,[],[],o,[APure C f ivs x],0)
        | false=>none
      | none=>none
    | .w ids ivs x::o=>match xw st.heap ids with
      | some objs=>match wO x with
        | true=>some (.imm x,[],ids,o,[APure C f ivs x,zcN (first++args++caps) objs ivs],0)
        | false=>none
      | none=>none
    | .c l m r ups d::o=>match xw st.heap l with
      | some objs=>match kF l m st.next with
        | true=>some (r,ups,l,o,[CallP C f (first++args++caps) l m st.next objs r ups d],d)
        | false=>none
      | none=>none
    | _=>none
  | _=>none
def zg5 (op:AOp) (agg:Bool) (n:Nat) (orc:List Orc) (st:St) (x:AV):xD:=match orc with
  | .ar row::o=>match x with
    | .ptr i r f=>match za st.heap i with
      | some (.rows _ rows)=>match agg with
        | true=>if f+n≤row.length then some (.agg ((row.drop f).take n),[],zj op (zd st.env),o,[VI rows r row],0) else none
        | false=>match row[f]? with
          | some c=>some (c,[],zj op (zd st.env),o,[VI rows r row],0)
          | none=>none
      | _=>none
    | _=>none
  | _=>jj op orc st
def zem (op:AOp) (n:Nat) (orc:List Orc) (st:St) (x:AV) (v:Option (List AV)):xD:=match orc with
  | .aw row rows'::o=>match x with
    | .ptr i r f=>match v with
      | some cs=>match za st.heap i with
        | some (.rows sz rows)=>if cs.length=n∧f+n≤row.length then some (.undef,[(i,.rows sz rows')],zj op (zd st.env),o,[zix rows r row (qN row f cs) rows'],0) else none
        | _=>none
      | none=>none
    | _=>none
  | _=>jj op orc st
def ziC (op:AOp) (sz by_:Nat) (zero:List AV) (orc:List Orc) (st:St) (x:AV):xD:=match orc with
  | .m k rows::o=>match x with
    | .imm (.int .i64 n)=>some (.mslice st.next 0 k,[(st.next,.rows sz rows)],zj op (zd st.env),o,[zfM n by_ zero k rows],0)
    | _=>none
  | _=>jj op orc st
def ziD (op:AOp) (sz by_:Nat) (orc:List Orc) (st:St) (x:AV) (s:AV):xD:=match orc with
  | .a rows k::o=>match xf (za st.heap) x with
    | some new=>match s with
      | .nil=>some (.gslice st.next rows,[(st.next,.tip sz k)],zj op (zd st.env),o,[zfN sz by_ [] new rows 0 k],0)
      | .gslice i old=>match za st.heap i with
        | some (.tip sz' len)=>if sz'=sz then some (.gslice i rows,[(i,.tip sz k)],zj op (zd st.env),o,[zfN sz by_ old new rows len k],0) else none
        | _=>none
      | _=>none
    | none=>none
  | .b rows k::o=>match jG (za st.heap) x with
    | some new=>match s with
      | .mslice i off len=>match za st.heap i with
        | some (.rows sz' old)=>if sz'=sz∧off=0 then some (.mslice st.next 0 k,[(st.next,.rows sz rows),(i,.dead)],zj op (zd st.env),o,[zko sz by_ old new rows len k],0) else none
        | _=>none
      | _=>none
    | none=>none
  | _=>jj op orc st
def zg6 (op:AOp) (str:Bool) (zero:AV) (ok:Bool) (orc:List Orc) (st:St) (k m:AV):xD:=match orc with
  | .l x b::o=>match m,k with
    | .map i,.imm k=>match za st.heap i with
      | some (.map es)=>some (match ok with | true=>.tuple [x,.imm (.bool b)] | false=>x,[],zj op (zd st.env),o,[zcM str zero k es x b],0)
      | _=>none
    | _,_=>none
  | _=>jj op orc st
def ziE (op:AOp) (str:Bool) (orc:List Orc) (st:St) (v k m:AV):xD:=match orc with
  | .u es'::o=>match m,k with
    | .map i,.imm k=>match za st.heap i with
      | some (.map es)=>some (.undef,[(i,.map es')],zj op (zd st.env),o,[zfO str k v es es'],0)
      | _=>none
    | _,_=>none
  | _=>jj op orc st
def zg7 (op:AOp) (sz:Nat) (orc:List Orc) (st:St) (x:AV) (d:AV):xD:=match orc with
  | .b rows' _::o=>match jG (za st.heap) x with
    | some new=>match d with
      | .mslice i 0 len=>match za st.heap i with
        | some (.rows sz' rows)=>if sz'=sz then some (.imm (.int .i64 (len:Int)),[(i,.rows sz rows')],zj op (zd st.env),o,[zg2 sz rows new rows' len],0) else none
        | _=>none
      | _=>none
    | none=>none
  | _=>jj op orc st
def ziF (op:AOp) (len sz:Nat) (orc:List Orc) (st:St) (i x:AV):xD:=match orc with
  | .k row::o=>match x with
    | .agg cs=>match i with
      | .imm (.int _ n)=>match cs[row]? with
        | some c=>if sz=1 then some (c,[],zj op (zd st.env),o,[J4 n 0 len row],0) else none
        | none=>none
      | _=>none
    | _=>none
  | _=>jj op orc st
def opX (C:Ctx) (op:AOp) (orc:List Orc) (D:List Nat) (st:St):xD:=match op with
  | .pick c a b=>zg3 op orc st (inD D c) (zd st.env a) (zd st.env b) (zd st.env c)
  | .len x=>ziy op orc st (zd st.env x)
  | .idx sz x i=>ziz op sz orc st (zd st.env i) (zd st.env x)
  | .idxa len sz x i=>zg4 op len sz orc st (zd st.env i) (zd st.env x)
  | .bin bop x y=>ziA op bop orc st (zd st.env x) (zd st.env y)
  | .slc sz x lo hi=>ziB op sz orc st lo hi (zd st.env x)
  | .call f args=>zcP C orc st (args.map (zd st.env)) (zd st.env f)
  | .load agg n x=>zg5 op agg n orc st (zd st.env x)
  | .store n x v=>zem op n orc st (zd st.env x) (cellsOf (zd st.env v))
  | .mks sz by_ zero n=>ziC op sz by_ zero orc st (zd st.env n)
  | .app sz by_ s x=>ziD op sz by_ orc st (zd st.env x) (zd st.env s)
  | .look str zero ok m k=>zg6 op str zero ok orc st (zd st.env k) (zd st.env m)
  | .upd str m k v=>ziE op str orc st (zd st.env v) (zd st.env k) (zd st.env m)
  | .copy sz d x=>zg7 op sz orc st (zd st.env x) (zd st.env d)
  | .ixa len sz x i=>ziF op len sz orc st (zd st.env i) (zd st.env x)
  | op=>jj op orc st
def Jl (gd:Option (Nat×Bool)) (orc:List Orc) (D:List Nat) (st:St):Option (Bool×List Orc×List Prop×List Nat×St):=match gd with
  | none=>some (true,orc,[],D,st)
  | some (t,want)=>match (za st.env t).getD .top with
    | .undef=>some (false,orc,[],D,st)
    | .imm (.bool b)=>match D.contains t with
      | true=>match b with
        | true=>some (want,orc,[],D,st)
        | false=>some (!want,orc,[],D,st)
      | false=>match orc with
        | .g true::o=>some (want,o,[b=true],t::D,{st with env:=zl st.env t (.imm (.bool true))})
        | .g false::o=>some (!want,o,[b=false],t::D,{st with env:=zl st.env t (.imm (.bool false))})
        | _=>none
    | _=>none
def zmr (dr:Option (List Nat)) (j:Nat) (W R:List (Nat×Nat)) (ups:List (Nat×AObj)) (rd:List Nat) (d:Nat):Bool:=match dr with
  | none=>true
  | some ord=>d == 0&&jR ord j W R (zT ups) rd
def St.afterD (st:St) (dst:Option Nat) (r:AV) (ups:List (Nat×AObj)) (d:Nat):St:=
  St.put {st with heap:=zG ups st.heap,next:=st.next+d+1} dst r
def J5 (D:List Nat):Option Nat→List Nat
  | some d=>D.filter (· != d)
  | none=>D
def VJ (C:Ctx) (dr:Option (List Nat)):List AItem→Nat→List (Nat×Nat)→List (Nat×Nat)→List Orc→List Nat→St→Option (St×List Prop)
  | [],_,_,_,orc,_,st=>match orc with
    | []=>some (st,[])
    | _=>none
  | it::rest,j,W,R,orc,D,st=>match Jl it.guard orc D st with
    | none=>none
    | some (false,o,ps,D',st')=>match VJ C dr rest (j+1) W R o (J5 D' it.dst) (st'.after it.dst .undef []) with
      | some (s,qs)=>some (s,ps++qs)
      | none=>none
    | some (true,o,ps,D',st')=>match opX C it.op o D' st' with
      | none=>none
      | some (r,ups,rd,o',ps',d)=>match zmr dr j W R ups rd d with
        | false=>none
        | true=>match VJ C dr rest (j+1) (qQ j (zT ups) W) (qQ j rd R) o' (J5 D' it.dst) (st'.afterD it.dst r ups d) with
          | some (s,qs)=>some (s,ps++(ps'++qs))
          | none=>none
section
variable {C:Ctx}
theorem Qo {α:Type}:∀ {l:List (Nat×α)} {t:Nat} {x:α},za l t=some x→zl l t x=l
  | [],t,x,h=>by cases h
  | (k,v)::r,t,x,h=>by
    simp only [za] at h
    simp only [zl]
    split at h
    · rename_i e;subst e;cases h;simp
    · rename_i e;rw [if_neg e,Qo h]
theorem qh {op:AOp} {orc o':List Orc} {st:St} {r:AV} {ups:List (Nat×AObj)} {rd:List Nat} {ps:List Prop} {d:Nat} (h:jj op orc st=some (r,ups,rd,o',ps,d)) :
    evalOp op (zd st.env) (za st.heap) st.next=some (r,ups)∧rd=zj op (zd st.env)∧d=0:=by
  unfold jj at h
  split at h
  · rename_i e;cases h;exact ⟨e,rfl,rfl⟩
  · cases h
def zal:AOp→Bool
  | .call _ _=>true
  | _=>false
theorem zcQ {st:St} {sz id:Nat} {x:Opd} {lo hi:Option Opd} {rows:List (List IV)} {h:Nat→Option AObj} (hx:zd st.env x=.imm (.slice rows)):evalOp (.slc sz x lo hi) (zd st.env) h id=match zcO st 0 lo,zcO st (rows.length:Int) hi with
    | some a,some b=>if 0≤a∧a≤b∧b≤(rows.length:Int)∧(rows.all fun row=>row.length == sz)=true then some (.imm (.slice ((rows.take b.toNat).drop a.toNat)),[]) else none
    | _,_=>none:=by
  simp only [evalOp,hx]
  cases lo<;>cases hi<;>rfl
theorem zam {op:AOp} {orc o':List Orc} {D:List Nat} {st:St} {r:AV} {ups:List (Nat×AObj)} {rd:List Nat} {ps:List Prop} {d:Nat} (hc:zal op=false) (h:opX C op orc D st=some (r,ups,rd,o',ps,d)) (hp:AllP ps) :
    evalOp op (zd st.env) (za st.heap) st.next=some (r,ups)∧rd=zj op (zd st.env)∧d=0:=by
  cases op
  case call=>cases hc
  case pick c a b=>
    simp only [opX] at h
    unfold zg3 at h
    simp only [evalOp]
    split at h
    · rename_i x hx
      split at h
      · split at h<;>(cases h;rw [hx];exact ⟨rfl,rfl,rfl⟩)
      · split at h
        · cases h;have:=hp.one;subst this;rw [hx];exact ⟨rfl,rfl,rfl⟩
        · cases h;have:=hp.one;subst this;rw [hx];exact ⟨rfl,rfl,rfl⟩
        · cases h
    · cases h
  case len x=>
    simp only [opX] at h
    unfold ziy at h
    split at h
    · rename_i rows hx
      split at h
      · cases h
        have:=hp.one
        refine ⟨?_,rfl,rfl⟩
        simp only [evalOp,xO,hx]
        unfold zak at this
        rw [this]
      · cases h
    · rename_i rows hx
      split at h
      · cases h
        have:=hp.one
        refine ⟨?_,rfl,rfl⟩
        simp only [evalOp,xO,hx]
        unfold zak at this
        rw [this]
      · cases h
    · exact qh h
  case idx sz x i=>
    simp only [opX] at h
    unfold ziz at h
    split at h
    · rename_i rows hx
      split at h
      · rename_i k n hi
        split at h
        · split at h
          · rename_i hl
            cases h
            have:=hp.one
            refine ⟨?_,rfl,rfl⟩
            simp only [evalOp,hx,hi,if_pos this.1,this.2,if_pos hl]
          · cases h
        · cases h
      · cases h
    · rename_i rows hx
      split at h
      · rename_i k n hi
        split at h
        · split at h
          · rename_i hl
            cases h
            have:=hp.one
            refine ⟨?_,rfl,rfl⟩
            simp only [evalOp,hx,hi,if_pos this.1,this.2,if_pos hl]
          · cases h
        · cases h
      · cases h
    · rename_i j off len hx
      split at h
      · split at h
        · rename_i k n hi
          split at h
          · rename_i sz' rows ho
            split at h
            · rename_i hsz
              cases h
              obtain ⟨h1,h2,h3⟩:=hp.one
              refine ⟨?_,rfl,rfl⟩
              simp only [evalOp,hx,hi,ho]
              rw [if_pos ⟨hsz,h1,h2⟩,h3]
            · cases h
          · cases h
        · cases h
      · exact qh h
    · exact qh h
  case idxa len sz x i=>
    simp only [opX] at h
    unfold zg4 at h
    split at h
    · split at h
      · rename_i j hx
        split at h
        · rename_i k n hi
          split at h
          · rename_i sz' rows ho
            split at h
            · rename_i hsz
              cases h
              obtain ⟨h1,h2,h3⟩:=hp.one
              refine ⟨?_,rfl,rfl⟩
              simp only [evalOp,hx,hi,ho]
              rw [if_pos ⟨hsz,h1,h2⟩,←h3,Nat.zero_add]
            · cases h
          · cases h
        · cases h
      · cases h
    · exact qh h
  case bin bop x y=>
    simp only [opX] at h
    unfold ziA at h
    split at h
    all_goals first
      | exact qh h
      | skip
    all_goals
      split at h
      · rename_i a b hx hy
        split at h
        · cases h
          have:=hp.one
          unfold VH at this
          refine ⟨?_,rfl,rfl⟩
          simp only [evalOp,hx,hy,this,Option.map_some]
        · cases h
      · cases h
  case slc sz x lo hi=>
    simp only [opX] at h
    unfold ziB at h
    split at h
    · rename_i rows hx
      split at h
      · rename_i a b r' o ha hb
        cases h
        obtain ⟨h1,h2,h3,h4,h5⟩:=hp.one
        refine ⟨?_,rfl,rfl⟩
        rw [zcQ hx,ha,hb]
        simp only
        rw [if_pos ⟨h1,h2,h3,h4⟩,h5]
      · cases h
    · cases h
  case load agg n x=>
    simp only [opX] at h
    unfold zg5 at h
    split at h
    · split at h
      · rename_i i rw_ f hx
        split at h
        · rename_i sz rows ho
          split at h
          · split at h
            · rename_i hle
              cases h
              have h1:=hp.one
              unfold VI at h1
              refine ⟨?_,rfl,rfl⟩
              simp only [evalOp,hx,ho,h1,if_true]
              rw [if_pos hle]
            · cases h
          · split at h
            · rename_i c hcell
              cases h
              have h1:=hp.one
              unfold VI at h1
              refine ⟨?_,rfl,rfl⟩
              simp only [evalOp,hx,ho,h1,hcell,Option.map_some,Bool.false_eq_true,if_false]
            · cases h
        · cases h
      · cases h
    · exact qh h
  case store n x v=>
    simp only [opX] at h
    unfold zem at h
    split at h
    · split at h
      · rename_i i rw_ f hx
        split at h
        · rename_i cs hcs
          split at h
          · rename_i sz rows ho
            split at h
            · rename_i hle
              cases h
              obtain ⟨h1,h2⟩:=hp.one
              refine ⟨?_,rfl,rfl⟩
              simp only [evalOp,hx,hcs,ho,h1]
              rw [if_pos hle,h2]
            · cases h
          · cases h
        · cases h
      · cases h
    · exact qh h
  case mks sz by_ zero n=>
    simp only [opX] at h
    unfold ziC at h
    split at h
    · split at h
      · rename_i k rows o n' hx
        cases h
        obtain ⟨h1,h2,h3⟩:=hp.one
        refine ⟨?_,rfl,rfl⟩
        simp only [evalOp,hx]
        rw [if_pos h1,h2,h3]
      · cases h
    · exact qh h
  case app sz by_ s x=>
    simp only [opX] at h
    unfold ziD at h
    split at h
    · split at h
      · rename_i new hnew
        split at h
        · rename_i hs
          cases h
          obtain ⟨h1,h2,h3,h4,h5⟩:=hp.one
          refine ⟨?_,rfl,rfl⟩
          simp only [evalOp,hs,QW,hnew,h1]
          simp only [List.nil_append] at h4
          subst h4
          simp only [Nat.zero_add] at h3 h5
          subst h5
          simp [h3]
        · rename_i i old hs
          split at h
          · rename_i sz' len ho
            split at h
            · rename_i hsz
              cases h
              obtain ⟨h1,h2,h3,h4,h5⟩:=hp.one
              refine ⟨?_,rfl,rfl⟩
              simp only [evalOp,hs,QW,hnew,h1,ho]
              subst h4 h5
              simp [hsz,h2,h3]
            · cases h
          · cases h
        · cases h
      · cases h
    · split at h
      · rename_i new hnew
        split at h
        · rename_i i off len hs
          split at h
          · rename_i sz' old ho
            split at h
            · rename_i hsz
              cases h
              obtain ⟨h1,h2,h3,h4,h5⟩:=hp.one
              refine ⟨?_,rfl,rfl⟩
              simp only [evalOp,hs,QX,hnew,h1,ho]
              simp only [Bool.not_true,Bool.false_eq_true,if_false]
              rw [if_pos ⟨hsz.1,hsz.2,h2,h3⟩,h4,h5]
            · cases h
          · cases h
        · cases h
      · cases h
    · exact qh h
  case look str zero ok m k=>
    simp only [opX] at h
    unfold zg6 at h
    split at h
    · split at h
      · rename_i i kk hm hk
        split at h
        · rename_i es ho
          cases h
          obtain ⟨h1,h2⟩:=hp.one
          refine ⟨?_,rfl,rfl⟩
          simp only [evalOp,hm,hk,ho,h1,if_true]
          rcases h2 with ⟨h3,h4⟩ | ⟨h3,h4,h5⟩
          · rw [h3,h4];cases ok<;>rfl
          · rw [h3,h4,h5];cases ok<;>rfl
        · cases h
      · cases h
    · exact qh h
  case upd str m k v=>
    simp only [opX] at h
    unfold ziE at h
    split at h
    · split at h
      · rename_i i kk hm hk
        split at h
        · rename_i es ho
          cases h
          obtain ⟨h1,h2⟩:=hp.one
          refine ⟨?_,rfl,rfl⟩
          simp only [evalOp,hm,hk,ho,h1,if_true,h2]
        · cases h
      · cases h
    · exact qh h
  case copy sz d x=>
    simp only [opX] at h
    unfold zg7 at h
    split at h
    · split at h
      · rename_i new hnew
        split at h
        · rename_i i len hd
          split at h
          · rename_i sz' rows ho
            split at h
            · rename_i hsz
              cases h
              obtain ⟨h1,h2,h3,h4⟩:=hp.one
              refine ⟨?_,rfl,rfl⟩
              simp only [evalOp,Km,hd,ho,hnew]
              rw [if_pos ⟨hsz,h1,h2,h3⟩,h4]
            · cases h
          · cases h
        · cases h
      · cases h
    · exact qh h
  case ixa len sz x i=>
    simp only [opX] at h
    unfold ziF at h
    split at h
    · split at h
      · rename_i cs hx
        split at h
        · rename_i k n hi
          split at h
          · rename_i c hc
            split at h
            · rename_i hsz
              cases h
              obtain ⟨h1,h2,h3⟩:=hp.one
              refine ⟨?_,rfl,rfl⟩
              simp only [evalOp,hx,hi]
              rw [Nat.zero_add] at h3
              rw [if_pos ⟨hsz,h1,h2⟩,h3,hc]
              rfl
            · cases h
          · cases h
        · cases h
      · cases h
    · exact qh h
  all_goals exact qh h
theorem zen {C:CtxY} {op:AOp} {orc o':List Orc} {D:List Nat} {st:St} {r:AV} {ups:List (Nat×AObj)} {rd:List Nat} {ps:List Prop} {d:Nat} {dst:Option Nat} {K:St→Prop} (h:opX C op orc D st=some (r,ups,rd,o',ps,d)) (hp:AllP ps) (hK:K (st.afterD dst r ups d)) :
    evOp C dst K st op:=by
  cases hc:zal op
  · obtain ⟨e,_,rfl⟩:=zam hc h hp
    cases op<;>first | (cases hc;done) | (simp only [evOp];rw [e];exact hK)
  · cases op<;>first | (cases hc;done) | skip
    rename_i f args
    simp only [opX] at h
    unfold zcP at h
    split at h
    · rename_i f' first caps hf
      simp only [evOp,hf]
      split at h
      · split at h
        · rename_i ivs hiv
          split at h
          · rename_i hm;cases h;exact ACall.pure (d:=5) hp.one hm hiv hK
          · cases h
        · cases h
      · split at h
        · rename_i objs ho
          split at h
          · rename_i hm
            cases h
            cases hp with
            | cons h1 h2=>exact ACall.snap (d:=5) h1 (Qm (Qn ho) h2.one) hm hK
          · cases h
        · cases h
      · split at h
        · rename_i objs ho
          split at h
          · rename_i hm
            cases h
            exact ACall.det hp.one hm ho hK
          · cases h
        · cases h
      · cases h
    · cases h
theorem vW {gd:Option (Nat×Bool)} {orc o:List Orc} {D D':List Nat} {st st':St} {b:Bool} {ps:List Prop} (h:Jl gd orc D st=some (b,o,ps,D',st')) (hp:AllP ps):st'=st∧zV st.env gd=some b:=by
  unfold Jl at h
  split at h
  · cases h;exact ⟨rfl,rfl⟩
  · rename_i t want
    split at h
    · rename_i e;cases h;exact ⟨rfl,by simp only [zV,e]⟩
    · rename_i x e
      have hget:za st.env t=some (.imm (.bool x)):=by
        cases h1:za st.env t with
        | none=>rw [h1] at e;cases e
        | some y=>rw [h1] at e;simp only [Option.getD_some] at e;rw [e]
      split at h
      · split at h
        · cases h;exact ⟨rfl,by simp only [zV,e];cases b<;>rfl⟩
        · cases h;exact ⟨rfl,by simp only [zV,e];cases want<;>rfl⟩
      · split at h
        · cases h;have:=hp.one;subst this;exact ⟨by rw [Qo hget],by simp only [zV,e];cases b<;>rfl⟩
        · cases h;have:=hp.one;subst this;exact ⟨by rw [Qo hget],by simp only [zV,e];cases want<;>rfl⟩
        · cases h
    · cases h
theorem VK {C:CtxY} {it:AItem} {st:St} {b:Bool} {K:St→Prop} (hg:zV st.env it.guard=some b) (h1:b=true→evOp C it.dst K st it.op) (h2:b=false→K (st.after it.dst .undef [])):Jg C it K st:=by
  unfold Jg
  cases hgd:it.guard with
  | none=>rw [hgd] at hg;simp only [zV,Option.some.injEq] at hg;exact h1 hg.symm
  | some p=>
    obtain ⟨t,want⟩:=p
    rw [hgd] at hg
    simp only [zV] at hg
    simp only [Jf]
    split at hg
    · rename_i x e
      rw [e]
      simp only [Option.some.injEq] at hg
      simp only
      rw [hg]
      cases b
      · exact h2 rfl
      · exact h1 rfl
    · rename_i e
      rw [e]
      simp only [Option.some.injEq] at hg
      exact h2 hg.symm
    · cases hg
theorem VL {C:CtxY}:∀ {items:List AItem} {j:Nat} {W R:List (Nat×Nat)} {orc:List Orc} {D:List Nat} {st st':St} {ps:List Prop} {K:St→Prop},VJ C none items j W R orc D st=some (st',ps)→AllP ps→K st'→evl C items K st
  | [],j,W,R,orc,D,st,st',ps,K,h,hp,hK=>by
    simp only [VJ] at h
    split at h
    · cases h;exact hK
    · cases h
  | it::rest,j,W,R,orc,D,st,st',ps,K,h,hp,hK=>by
    simp only [VJ] at h
    split at h
    · cases h
    · rename_i o qs D' s hg
      split at h
      · rename_i s2 rs hr
        cases h
        obtain ⟨p1,p2⟩:=hp.app
        obtain ⟨rfl,hgd⟩:=vW hg p1
        exact VK hgd (fun h=>by cases h) (fun _=>VL hr p2 hK)
      · cases h
    · rename_i o qs D' s hg
      split at h
      · cases h
      · rename_i r ups rd o' ps' d hop
        split at h
        · cases h
        · split at h
          · rename_i s2 rs hr
            cases h
            obtain ⟨p1,p2⟩:=hp.app
            obtain ⟨p3,p4⟩:=p2.app
            obtain ⟨rfl,hgd⟩:=vW hg p1
            exact VK hgd (fun _=>zen hop p3 (VL hr p4 hK)) (fun h=>by cases h)
          · cases h
theorem zfP (ord:List Nat) (j:Nat) (W R:List (Nat×Nat)):jR ord j W R [] []=true:=by
  simp [jR]
def ziG (C:Ctx) (dr:Option (List Nat)) (items:List AItem) (ks:List Nat) (orc:List Orc) (st:St):Option (St×List Prop):=match VJ C dr items 0 [] [] orc [] st with
  | some (s,ps)=>some (s.keep (some ks),ps)
  | none=>none
theorem jL {C:CtxY} {nt:Fr} {o:List Nat} {items:List AItem} {ks:List Nat} {K:Exit→St→Prop} {st st':St} (orc:List Orc) {ps:List Prop} (hp:AllP ps) (hK:K .normal st') (h:ziG C none items ks orc st=some (st',ps)):awp C nt (.region false o items (some ks)) K st:=by
  unfold ziG at h
  split at h
  · rename_i s qs hr
    cases h
    exact ZK (VL hr hp hK)
  · cases h
end
theorem zfQ {α:Type} (f:α→List IV) (l:List α):zak (List.map f l) (l.length:Int):=by simp [zak]
theorem zfR {α:Type} (f:α→List IV) {l:List α} {n:Int} {e:α} (h:ze l n=some e):ziv (List.map f l) n (f e):=by
  obtain ⟨h1,h2,_⟩:=Jj h
  exact ⟨h1,by simp [h2]⟩
theorem zfS {α:Type} (f:α→List IV) (sz:Nat) (hf:∀ x,(f x).length=sz) {l e:List α} {a b:Int} (h:XS l a b=some e):ziw (List.map f l) sz a b (List.map f e):=by
  obtain ⟨h1,h2,h3,h4⟩:=zek h
  exact ⟨h1,h2,by simpa using h3,by simp [hf],by rw [←h4];simp [List.map_take,List.map_drop]⟩
theorem zfT {k:IntKind} {a b e:Int} (h:Ql k a b=some e):VH .rem (.int k a) (.int k b) (.int k e):=by
  obtain ⟨h1,h2⟩:=zel h
  simp [VH,h1,h2]
section
variable {α β:Type}
def zh (len:Nat) (n:Int):Option Nat:=if 0≤n∧n < (len:Int) then some n.toNat else none
theorem zk {len k:Nat} {n:Int} (h:zh len n=some k):J4 n 0 len k:=by
  unfold zh at h;split at h
  · rename_i hh;cases h;exact ⟨hh.1,hh.2,by omega⟩
  · cases h
theorem zH (f:α→List IV) {l:List α} {k:Nat} {e:α} (h:l[k]?=some e):VI (zb f l) k (zn (f e)):=by
  unfold VI zb;rw [List.getElem?_map,h];rfl
theorem zI (f:α→List IV) {l:List α} {k:Nat} {e:α} (e':α) (h:l[k]?=some e):zix (zb f l) k (zn (f e)) (zn (f e')) (zb f (l.set k e')):=by
  refine ⟨zH f h,?_⟩
  simp only [zb,List.map_set]
theorem J6 {l:List α} {k:Nat} {e:α} (e':α) (h:l[k]?=some e):(l.set k e')[k]?=some e':=by
  obtain ⟨hk,_⟩:=List.getElem?_eq_some_iff.1 h
  simp [hk]
def mkN (by_:Nat) (n:Int):Option Nat:=if 0≤n∧n < 2 ^ 31∧n*by_≤140737488355328 then some n.toNat else none
theorem j9 (f:α→List IV) (z:α) {by_ k:Nat} {n:Int} (h:mkN by_ n=some k):zfM n by_ (zn (f z)) k (zb f (List.replicate k z)):=by
  unfold mkN at h;split at h
  · rename_i hh;cases h;exact ⟨hh,rfl,by simp [zb]⟩
  · cases h
theorem Jm (row:List AV) {by_ k:Nat} {n:Int} (h:mkN by_ n=some k):zfM n by_ row k (List.replicate k row):=by
  unfold mkN at h;split at h
  · rename_i hh;cases h;exact ⟨hh,rfl,rfl⟩
  · cases h
def xx (k:Nat) (d l:List α):Option (List α):=if k=d.length∧l.length=k then some l else none
theorem zcR {k:Nat} {d l e:List α} (h:xx k d l=some e):k=d.length∧l.length=k∧e=l:=by
  unfold xx at h;split at h
  · rename_i hh;cases h;exact ⟨hh.1,hh.2,rfl⟩
  · cases h
theorem Jn (f:α→List IV) (sz:Nat) (hf:∀ x,(f x).length=sz) {k:Nat} {d l e:List α} (h:xx k d l=some e):zg2 sz (zb f d) (List.map (List.map AV.imm) (List.map f l)) (zb f e) k:=by
  obtain ⟨h1,h2,rfl⟩:=zcR h
  refine ⟨by simpa [zb] using h1,by simpa using h2,by simp [hf],?_⟩
  simp only [zb,List.map_map];congr 1
def qt (by_:Nat) (l m:List α):Option (List α):=if (l.length+m.length)*by_≤140737488355328 then some (l++m) else none
theorem jA (f:α→List IV) (sz by_:Nat) (hf:∀ x,(f x).length=sz) {l m e:List α} (h:qt by_ l m=some e):zfN sz by_ (List.map f l) (List.map f m) (List.map f e) l.length e.length:=by
  unfold qt at h;split at h
  · rename_i hh;cases h;exact ⟨by simp [hf],by simp,by simpa using hh,by simp,by simp⟩
  · cases h
end
def IV.i64 (n:Int):IV:=.int .i64 n
theorem ju (args:List AV) (objs:List (Nat×AObj)) (ivs:List IV) (h:mapO (zF (za objs) 5) args=some ivs):zcN args objs ivs:=h
def Jo (k k':IntKind) (a b:Int):Option Int:=if b < 0 then none else some (a.fdiv (2 ^ (min b.toNat k.bits)))
theorem zfU {k k':IntKind} {a b e:Int} (h:Jo k k' a b=some e):VH .shr (.int k a) (.int k' b) (.int k e):=by
  unfold Jo at h
  split at h
  · cases h
  · rename_i hb;cases h;simp [VH,hb]
def zp {α β:Type} [DecidableEq α] (k:α):List (α×β)→Option β
  | []=>none
  | (k',v)::r=>if k=k' then some v else zp k r
def zQ {α β:Type} [DecidableEq α] (k:α) (v:β):List (α×β)→List (α×β)
  | []=>[(k,v)]
  | (k',v')::r=>if k=k' then (k,v)::r else (k',v')::zQ k v r
theorem yQ {β:Type} (vf:β→IV) (k:Int) (es:List (Int×β)):xg (.int .i64 k) (zD IV.i64 vf es)=true:=by
  simp [xg,zD,IV.i64,jF]
theorem wm {β:Type} (vf:β→IV) (k:Int):∀ es:List (Int×β),qk (.int .i64 k) (zD IV.i64 vf es)=(zp k es).map fun v=>.imm (vf v)
  | []=>rfl
  | (k',v)::r=>by
    have ih:=wm vf k r
    simp only [zD,List.map_cons,qk,IV.i64,jF,if_true,zp] at ih ⊢
    by_cases e:k=k'
    · subst e;simp
    · simp only [beq_eq_false_iff_ne.2 e,if_neg e];exact ih
theorem Jp {β:Type} (vf:β→IV) (k:Int) (x:β):∀ es:List (Int×β),qD (.int .i64 k) (.imm (vf x)) (zD IV.i64 vf es)=zD IV.i64 vf (zQ k x es)
  | []=>rfl
  | (k',v)::r=>by
    have ih:=Jp vf k x r
    simp only [zD,List.map_cons,qD,IV.i64,jF,if_true,zQ] at ih ⊢
    by_cases e:k=k'
    · subst e;simp
    · simp only [beq_eq_false_iff_ne.2 e,if_neg e,List.map_cons];rw [ih]
theorem zeo {β:Type} (vf:β→IV) (z:β) (k:Int) (es:List (Int×β)):zcM false (.imm (vf z)) (.int .i64 k) (zD IV.i64 vf es) (.imm (vf ((zp k es).getD z))) (zp k es).isSome:=by
  refine ⟨by rw [yQ];rfl,?_⟩
  rw [wm]
  cases zp k es with
  | none=>exact .inr ⟨rfl,rfl,rfl⟩
  | some v=>exact .inl ⟨rfl,rfl⟩
theorem zan {β:Type} (vf:β→IV) (k:Int) (x:β) (es:List (Int×β)):zfO false (.int .i64 k) (.imm (vf x)) (zD IV.i64 vf es) (zD IV.i64 vf (zQ k x es)):=
  ⟨by rw [yQ];rfl,Jp vf k x es⟩
theorem WI (a b:ByteArray):(a == b)=decide (a=b):=by
  obtain ⟨a⟩:=a
  obtain ⟨b⟩:=b
  rw [Bool.eq_iff_iff,decide_eq_true_iff]
  show (a == b)=true↔_
  simp
theorem WJ {β:Type} (vf:β→IV) (k:ByteArray) (es:List (ByteArray×β)):xg (.str k) (zD IV.str vf es)=true:=by
  simp [xg,zD,jF]
theorem QR {β:Type} (vf:β→IV) (k:ByteArray):∀ es:List (ByteArray×β),qk (.str k) (zD IV.str vf es)=(zp k es).map fun v=>.imm (vf v)
  | []=>rfl
  | (k',v)::r=>by
    have ih:=QR vf k r
    simp only [zD,List.map_cons,qk,jF,zp] at ih ⊢
    by_cases e:k=k'
    · subst e;simp [WI]
    · simp only [WI,decide_eq_false e,if_neg e];exact ih
theorem Jq {β:Type} (vf:β→IV) (k:ByteArray) (x:β):∀ es:List (ByteArray×β),qD (.str k) (.imm (vf x)) (zD IV.str vf es)=zD IV.str vf (zQ k x es)
  | []=>rfl
  | (k',v)::r=>by
    have ih:=Jq vf k x r
    simp only [zD,List.map_cons,qD,jF,zQ] at ih ⊢
    by_cases e:k=k'
    · subst e;simp [WI]
    · simp only [WI,decide_eq_false e,if_neg e,List.map_cons];rw [ih]
theorem Qp {β:Type} (vf:β→IV) (z:β) (k:ByteArray) (es:List (ByteArray×β)):zcM true (.imm (vf z)) (.str k) (zD IV.str vf es) (.imm (vf ((zp k es).getD z))) (zp k es).isSome:=by
  refine ⟨by rw [WJ];rfl,?_⟩
  rw [QR]
  cases zp k es with
  | none=>exact .inr ⟨rfl,rfl,rfl⟩
  | some v=>exact .inl ⟨rfl,rfl⟩
theorem Zi {β:Type} (vf:β→IV) (k:ByteArray) (x:β) (es:List (ByteArray×β)):zfO true (.str k) (.imm (vf x)) (zD IV.str vf es) (zD IV.str vf (zQ k x es)):=
  ⟨by rw [WJ];rfl,Jq vf k x es⟩
theorem WK {α:Type} (f:α→List IV) (h:Nat→Option AObj) (d:Nat):∀ l:List α,mapO (fun row:List AV=>mapO (zF h (d+1)) row) (zb f l)=some (l.map f)
  | []=>rfl
  | x::l=>by
    have ih:=WK f h d l
    have h1:mapO (zF h (d+1)) (zn (f x))=some (f x):=by
      generalize f x=r
      induction r with
      | nil=>rfl
      | cons a r ih=>simp only [zn,List.map_cons,mapO,zF] at ih ⊢; rw [ih]
    simp only [zb,List.map_cons,mapO] at ih ⊢
    rw [h1];simp only;rw [ih]
theorem zao {α:Type} (f:α→List IV) (h:Nat→Option AObj) (d id sz:Nat) (l:List α) (ho:h id=some (.rows sz (zb f l))):zF h (d+2) (.mslice id 0 l.length)=some (.slice (l.map f)):=by
  show (match h id with
      | some (.rows _ rows)=>if 0+l.length≤rows.length then (mapO (fun row:List AV=>mapO (zF h (d+1)) row) ((rows.drop 0).take l.length)).map IV.slice else none
      | _=>none)=_
  rw [ho]
  simp only [List.drop_zero]
  rw [if_pos (by simp [zb]),List.take_of_length_le (by simp [zb]),WK f h d l];rfl
end
def zcS (m:Nat) (ov env:List (Nat×AV)):List Nat→Option (List (Nat×AV)×List Prop)
  | []=>some ([],[])
  | k::ks=>match za env k with
    | none=>none
    | some a=>match zcS m ov env ks with
      | none=>none
      | some (l,ps)=>match za ov k with
        | some b=>match zU m b with
          | true=>some ((k,b)::l,(a=b)::ps)
          | false=>none
        | none=>match zU m a with
          | true=>some ((k,a)::l,ps)
          | false=>none
def VM (m:Nat):AObj→Bool
  | .rows _ rows=>rows.all fun row=>row.all (zU m)
  | .tip _ _=>true
  | .map es=>es.all fun e=>zU m e.2
  | .dead=>true
  | .lp _ _ _ _=>true
theorem wR {m:Nat} {o:AObj} (h:VM m o=true):zP m o:=by
  cases o<;>simp only [VM,zP] at h ⊢
  · intro row hr x hx;exact List.all_eq_true.1 (List.all_eq_true.1 h row hr) x hx
  · intro e he;exact List.all_eq_true.1 h e he
def Kq (m:Nat) (ov heap:List (Nat×AObj)):List (Nat×Bool)→Option (List (Nat×AObj)×List Prop)
  | []=>some ([],[])
  | (k,f)::ks=>match za heap k with
    | none=>none
    | some a=>match Kq m ov heap ks with
      | none=>none
      | some (l,ps)=>match decide (k < m) with
        | false=>none
        | true=>match za ov k with
          | some b=>match f with
            | true=>match VM m b with
              | true=>some ((k,b)::l,(a=b)::ps)
              | false=>none
            | false=>some ((k,b)::l,(a=b)::zP m b::ps)
          | none=>match f with
            | true=>match VM m a with
              | true=>some ((k,a)::l,ps)
              | false=>none
            | false=>some ((k,a)::l,zP m a::ps)
def zg8 (ks:List Nat) (hs:List (Nat×Bool)) (n:Nat) (ov:List (Nat×AV)) (ovh:List (Nat×AObj)) (st:St):Option (St×List Prop):=match decide (n≤st.next) with
  | false=>none
  | true=>match zcS n ov st.env ks,Kq n ovh st.heap hs with
    | some (e,ps),some (h,qs)=>some (⟨e,h,n⟩,ps++qs)
    | _,_=>none
theorem Jr {m:Nat} {ov env:List (Nat×AV)}:∀ {ks:List Nat} {l:List (Nat×AV)} {ps:List Prop},zcS m ov env ks=some (l,ps)→AllP ps→∀ p∈l,za env p.1=some p.2∧zU m p.2=true
  | [],l,ps,h,hp=>by cases h;intro p hp;cases hp
  | k::ks,l,ps,h,hp=>by
    simp only [zcS] at h
    split at h
    · cases h
    · rename_i a ha
      split at h
      · cases h
      · rename_i l' ps' hr
        split at h
        · split at h
          · rename_i b hb hbl
            cases h
            cases hp with
            | cons h1 h2=>
              intro p hp
              rcases List.mem_cons.1 hp with rfl | hp
              · exact ⟨by rw [ha,h1],hbl⟩
              · exact Jr hr h2 p hp
          · cases h
        · split at h
          · rename_i hbl
            cases h
            intro p hpm
            rcases List.mem_cons.1 hpm with rfl | hpm
            · exact ⟨ha,hbl⟩
            · exact Jr hr hp p hpm
          · cases h
theorem wS {m:Nat} {ov heap:List (Nat×AObj)}:∀ {ks:List (Nat×Bool)} {l:List (Nat×AObj)} {ps:List Prop},Kq m ov heap ks=some (l,ps)→AllP ps→∀ p∈l,za heap p.1=some p.2∧p.1 < m∧zP m p.2
  | [],l,ps,h,hp=>by cases h;intro p hp;cases hp
  | (k,f)::ks,l,ps,h,hp=>by
    simp only [Kq] at h
    split at h
    · cases h
    · rename_i a ha
      split at h
      · cases h
      · rename_i l' ps' hr
        split at h
        · cases h
        · rename_i hk
          have hk:=of_decide_eq_true hk
          split at h
          · rename_i b hb
            split at h
            · split at h
              · rename_i hbl
                cases h
                cases hp with
                | cons h1 h2=>
                  intro p hp
                  rcases List.mem_cons.1 hp with rfl | hp
                  · exact ⟨by rw [ha,h1],hk,wR hbl⟩
                  · exact wS hr h2 p hp
              · cases h
            · cases h
              cases hp with
              | cons h1 h2=>
                cases h2 with
                | cons h3 h4=>
                  intro p hp
                  rcases List.mem_cons.1 hp with rfl | hp
                  · exact ⟨by rw [ha,h1],hk,h3⟩
                  · exact wS hr h4 p hp
          · split at h
            · split at h
              · rename_i hbl
                cases h
                intro p hpm
                rcases List.mem_cons.1 hpm with rfl | hpm
                · exact ⟨ha,hk,wR hbl⟩
                · exact wS hr hp p hpm
              · cases h
            · cases h
              cases hp with
              | cons h3 h4=>
                intro p hpm
                rcases List.mem_cons.1 hpm with rfl | hpm
                · exact ⟨ha,hk,h3⟩
                · exact wS hr h4 p hpm
theorem zap {st st':St} (ks:List Nat) (hs:List (Nat×Bool)) (n:Nat) (ov:List (Nat×AV)) (ovh:List (Nat×AObj)) {ps:List Prop} (hp:AllP ps) (h:zg8 ks hs n ov ovh st=some (st',ps)):Weak st st':=by
  unfold zg8 at h
  split at h
  · cases h
  · rename_i hn
    split at h
    · rename_i e qs hh rs he hhp
      cases h
      obtain ⟨p1,p2⟩:=hp.app
      exact JZ (of_decide_eq_true hn) (Jr he p1) (wS hhp p2)
    · cases h
theorem ACall.weak {C:Ctx} {f:Nat} {args:List AV} {heap:List (Nat×AObj)} {next:Nat} {K K':AV→List (Nat×AObj)→Nat→Prop} (hc:ACall C f args heap next K)
    (hk:∀ r h n,K r h n→∃ r' h' n',K' r' h' n'∧next≤n'∧Weak ⟨[(0,r)],h,n⟩ ⟨[(0,r')],h',n'⟩):ACall C f args heap next K':=by
  refine ⟨hc.1,fun g w vs R hv=>(hc.2 g w vs R hv).mono ?_⟩
  rintro e w' ⟨v,r,heap',next',g',rfl,hK,E,R',hx⟩
  obtain ⟨r',h',n',hK',hn,hw⟩:=hk r heap' next' hK
  let a:Act:={tmps := #[v],defers:=[]}
  have hrel:Rel C ⟨1,0⟩ g' ⟨[(0,r)],heap',next'⟩ a w':=⟨⟨rfl,Marks.nil _ (Nat.zero_le _),fun t x hx'=>by
    simp only [za] at hx'
    split at hx'
    · rename_i e;subst e;cases hx';exact hx
    · cases hx'⟩,R'⟩
  obtain ⟨g2,R2,hE⟩:=hw C ⟨1,0⟩ g' a w' hrel
  exact ⟨v,r',h',n',g2,rfl,hK',hE g ⟨[],heap,next⟩ w hn E,R2.heap,R2.env.slot 0 r' rfl⟩
def zg9 (rs:List ARes) (r:AV) (heap:List (Nat×AObj)) (n:Nat):Exit→St→Prop
  | .ret,st | .normal,st=>∃ x,jl rs st=some x∧Weak ⟨[(0,x)],st.heap,st.next⟩ ⟨[(0,r)],heap,n⟩
  | _,_=>False
def J7 (m:Nat) (heap:List (Nat×AObj)):Bool:=(List.range m).all fun i=>(za heap i).isSome
theorem zb5 {m:Nat} {heap:List (Nat×AObj)} (h:J7 m heap=true):∀ i,i < m→(za heap i).isSome=true:=fun i hi=>by
  simp only [J7,List.all_eq_true,List.mem_range] at h
  exact h i hi
def zC:Nat:=1000000
def wE (b:Nat) (L:List Int):List AV:=[bif Nat.blt b 2000000 then .gslice b (L.map zc) else .imm (.slice (L.map zc))]
def qi:Nat→List (List Int)→List (List AV)
  | _,[]=>[]
  | b,L::r=>wE b L::qi (b+1) r
theorem yq:∀ (Ls:List (List Int)) (b k:Nat),(qi b Ls)[k]?=(Ls[k]?).map (wE (b+k))
  | [],b,k=>by simp [qi]
  | L::r,b,0=>by simp [qi]
  | L::r,b,k+1=>by
    simp only [qi,List.getElem?_cons_succ]
    rw [yq r (b+1) k,show b+1+k=b+(k+1) by omega]
theorem xP {b:Nat} (h:b < 2000000) (L:List Int):wE b L=[.gslice b (L.map zc)]:=by
  have:Nat.blt b 2000000=true:=by simpa [Nat.blt_eq] using h
  simp [wE,this]
theorem vX {b:Nat} (h:¬ b < 2000000) (L:List Int):wE b L=[.imm (.slice (L.map zc))]:=by
  have:Nat.blt b 2000000=false:=by
    cases e:Nat.blt b 2000000 with
    | false=>rfl
    | true=>exact absurd (by simpa [Nat.blt_eq] using e) h
  simp [wE,this]
theorem Kc {nx b:Nat} (h2:2000000≤nx) (L:List Int):∀ x∈wE b L,zU nx x=true:=by
  intro x hx
  by_cases hb:b < 2000000
  · rw [xP hb] at hx
    have:x=.gslice b (L.map zc):=by simpa using hx
    subst this
    simp only [zU,xr,zK,decide_eq_true_eq];omega
  · rw [vX hb] at hx
    have:x=.imm (.slice (L.map zc)):=by simpa using hx
    subst this;rfl
theorem zbF {nx:Nat} (h2:2000000≤nx) (Ls:List (List Int)) (b:Nat):zP nx (.rows 1 (qi b Ls)):=by
  intro row hrow x hx
  obtain ⟨k,hk⟩:=List.mem_iff_getElem?.1 hrow
  rw [yq] at hk
  obtain ⟨L,_,rfl⟩:=Option.map_eq_some_iff.1 hk
  exact Kc h2 L x hx
inductive Belows (m:Nat):List (Nat×AObj)→Prop where
  | nil:Belows m []
  | exp {k:Nat} {o:AObj} {r:List (Nat×AObj)} (hk:decide (k < m)=true) (ho:VM m o=true) (t:Belows m r):Belows m ((k,o)::r)
  | rows {k sz:Nat} {α:Type} {f:α→List IV} {l:List α} {r:List (Nat×AObj)} (hk:decide (k < m)=true) (t:Belows m r):Belows m ((k,.rows sz (zb f l))::r)
  | ents {k:Nat} {α β:Type} {kf:α→IV} {vf:β→IV} {es:List (α×β)} {r:List (Nat×AObj)} (hk:decide (k < m)=true) (t:Belows m r):Belows m ((k,.map (zD kf vf es))::r)
  | nest {k:Nat} {Ls:List (List Int)} {r:List (Nat×AObj)} (hk:decide (k < m)=true) (hn:Nat.ble 2000000 m=true) (t:Belows m r):Belows m ((k,.rows 1 (qi zC Ls))::r)
theorem Belows.all {m:Nat} {l:List (Nat×AObj)} (h:Belows m l):∀ p∈l,p.1 < m∧zP m p.2:=by
  induction h with
  | nil=>intro p hp;cases hp
  | exp hk ho t ih=>
    intro p hp
    rcases List.mem_cons.1 hp with rfl | hp
    · exact ⟨of_decide_eq_true hk,wR ho⟩
    · exact ih p hp
  | rows hk t ih=>
    intro p hp
    rcases List.mem_cons.1 hp with rfl | hp
    · exact ⟨of_decide_eq_true hk,vV _ _ _ _⟩
    · exact ih p hp
  | ents hk t ih=>
    intro p hp
    rcases List.mem_cons.1 hp with rfl | hp
    · exact ⟨of_decide_eq_true hk,zbE _ _ _ _⟩
    · exact ih p hp
  | nest hk hn t ih=>
    intro p hp
    rcases List.mem_cons.1 hp with rfl | hp
    · exact ⟨of_decide_eq_true hk,zbF (Nat.le_of_ble_eq_true hn) _ _⟩
    · exact ih p hp
theorem DOk.start {C:Ctx} {f:Nat} {F:AFun} (hF:qf C f=some F.erase) {args:List AV} {heap heap1:List (Nat×AObj)} {m d:Nat} {r:AV} (hn:args.length≤F.nt) (b0:Belows m heap) (b1:Belows (m+d) heap1) (hka:args.all (zU m)=true) (hkr:zU (m+d) r=true) (k0:J7 m heap=true) (k1:J7 m heap1=true)
    (h:∀ B,awp C.plain ⟨F.nt,B⟩ F.body (zg9 F.results r heap1 (m+d)) ⟨q7 0 args,heap,m⟩):DOk C f args heap m r heap1 d where
  det:=by
    have h1:ACall C f args heap m fun x hp n=>Weak ⟨[(0,x)],hp,n⟩ ⟨[(0,r)],heap1,m+d⟩:=ACall.enter hF hn (fun B=>qO (fun e st hk=>by
      cases e with
      | ret=>obtain ⟨x,h1,h2⟩:=hk;exact ⟨.inl rfl,x,h1,h2⟩
      | normal=>obtain ⟨x,h1,h2⟩:=hk;exact ⟨.inr rfl,x,h1,h2⟩
      | _=>exact hk.elim) (h B))
    exact h1.weak fun x hp n hw=>⟨r,heap1,m+d,⟨rfl,rfl,rfl⟩,by omega,hw⟩
  k0:=b0.all
  ka:=fun x hx=>List.all_eq_true.1 hka x hx
  k1:=b1.all
  kr:=hkr
  all:=zb5 k1
  all0:=zb5 k0
end Go.Proofs.YtjkljacdbljkpaaGreatDoor
