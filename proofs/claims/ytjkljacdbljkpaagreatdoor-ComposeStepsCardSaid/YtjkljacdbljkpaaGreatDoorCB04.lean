/-
  The abstract machine: code as a demand that simp can work off: what is decided is run; what is not stands still.
  The abstract machine: counted loops, and small facts about numbers.
  The abstract machine: loops whose states are told by the slots that turn; lists.
  Denotations: small facts that printed proofs use.
  Denotations: rows of cells; what the printed proofs use.
  The abstract machine: a contract over a small heap serves in every heap that holds such objects under other names.
  Calls by contracts over small heaps.
  Regions run by the kernel: what is not decided by reckoning (tests, lengths, elements, answers of calls) is told ahead ('Orc'), and what is told is asked for as a list of facts.
  Forgetting, and the end of a function, by the kernel.
-/
import Derived.Test.YtjkljacdbljkpaaGreatDoorCB03
namespace Go.Proofs.YtjkljacdbljkpaaGreatDoor
open Go.RowKit
set_option linter.unusedVariables false
set_option linter.unusedSimpArgs false
def evAfter (dst:Option Nat) (env:List (Nat×AV)) (K:St→Prop):AV→List (Nat×AObj)→Nat→Prop:=fun r heap' next'=>K (St.put {env:=env,heap:=heap',next:=next'+1} dst r)
def evRes (dst:Option Nat) (K:St→Prop) (st:St):Option (AV×List (Nat×AObj))→Prop
  | some (r,ups)=>K (st.after dst r ups)
  | none=>False
def evCall (C:CtxY) (dst:Option Nat) (K:St→Prop) (st:St) (args:List AV):AV→Prop
  | .func f first caps=>ACall C f (first++args++caps) st.heap st.next (evAfter dst st.env K)
  | .yld l id=>C.Y l id args st.heap st.next (evAfter dst st.env K)
  | _=>False
def evOp (C:CtxY) (dst:Option Nat) (K:St→Prop) (st:St):AOp→Prop
  | .call f args=>evCall C dst K st (args.map (evEnv st.env)) (evEnv st.env f)
  | op=>evRes dst K st (evalOp op (evEnv st.env) (alGet st.heap) st.next)
def evG (C:CtxY) (dst:Option Nat) (op:AOp) (K:St→Prop) (st:St):Bool→Prop
  | true=>evOp C dst K st op
  | false=>K (st.after dst .undef [])
def evGV (C:CtxY) (dst:Option Nat) (op:AOp) (K:St→Prop) (st:St) (want:Bool):AV→Prop
  | .imm (.bool b)=>evG C dst op K st (b == want)
  | .undef=>evG C dst op K st false
  | _=>False
def evIt (C:CtxY) (it:AItem) (K:St→Prop) (st:St):Prop:=match it.guard with
  | none=>evOp C it.dst K st it.op
  | some (t,want)=>evGV C it.dst it.op K st want ((alGet st.env t).getD .top)
theorem evOp_eq (C:CtxY) (dst:Option Nat) (op:AOp) (g:Option (Nat×Bool)) (K:St→Prop) (st:St) (hg:guardOf st.env g=some true):evItem C ⟨dst,op,g⟩ st K=evOp C dst K st op:=by
  unfold evItem
  rw [hg]
  cases op
  case call f args=>
    simp only [evOp]
    cases evEnv st.env f<;>rfl
  all_goals
    simp only [evOp]
    generalize evalOp _ _ _ _=r
    rcases r with _ | ⟨r,ups⟩<;>rfl
theorem evIt_eq (C:CtxY) (it:AItem) (K:St→Prop) (st:St) (h:evIt C it K st):evItem C it st K:=by
  obtain ⟨dst,op,g⟩:=it
  unfold evIt at h
  split at h
  · rename_i hg
    simp only at hg
    subst hg
    rw [evOp_eq C dst op none K st rfl]
    exact h
  · rename_i t want hg
    simp only at hg
    subst hg
    unfold evGV at h
    split at h
    · rename_i b hb
      cases hbw:(b == want) with
      | true=>
        rw [hbw] at h
        rw [evOp_eq C dst op _ K st (by simp only [guardOf,hb,hbw])]
        exact h
      | false=>
        rw [hbw] at h
        unfold evItem
        simp only [guardOf,hb,hbw]
        exact h
    · rename_i hb
      unfold evItem
      simp only [guardOf,hb]
      exact h
    · exact h.elim
def evl (C:CtxY):List AItem→(St→Prop)→St→Prop
  | [],K,st=>K st
  | it::rest,K,st=>evIt C it (evl C rest K) st
theorem evl_evs (C:CtxY):∀ (l:List AItem) (K:St→Prop) (st:St),evl C l K st→evs C l K st
  | [],K,st,h=>h
  | it::rest,K,st,h=>by
    have:evl C rest K=evl C rest K:=rfl
    have h1:=evIt_eq C it _ st h
    simp only [evs]
    unfold evItem at h1 ⊢
    split
    · rename_i hg;rw [hg] at h1;exact evl_evs C rest K _ h1
    · rename_i hg
      rw [hg] at h1
      simp only at h1
      split
      · rename_i f args hop
        rw [hop] at h1
        simp only at h1
        split
        · rename_i hf
          rw [hf] at h1
          exact ACall.mono (fun r h n hk=>evl_evs C rest K _ hk) h1
        · rename_i l id hf
          rw [hf] at h1
          exact C.ymono _ _ _ _ _ _ _ (fun r h n hk=>evl_evs C rest K _ hk) h1
        · rename_i hf hf2
          split at h1
          · rename_i f' first caps hff;exact absurd hff (hf _ _ _)
          · rename_i l id hff;exact absurd hff (hf2 _ _)
          · exact h1
      · rename_i hop
        split at h1
        · rename_i f args h3;exact absurd h3 (hop _ _)
        · split
          · rename_i r ups hev;rw [hev] at h1;exact evl_evs C rest K _ h1
          · rename_i hev;rw [hev] at h1;exact h1
    · rename_i hg;rw [hg] at h1;exact h1
def wpC (b:AV) (x y:St→Prop) (st:St):Prop:=match b with
  | .imm (.bool true)=>x st
  | .imm (.bool false)=>y st
  | _=>False
def Kept (ks:Option (List Nat)) (K:Exit→St→Prop):St→Prop:=fun st=>K .normal (st.keep ks)
def wpD (C:CtxY) (b:Bool) (ord:List Nat) (items:List AItem) (K:St→Prop) (st:St):Prop:=match b with
  | true=>evr C K items st
  | false=>evd C ord K items 0 [] [] st
def wpx (C:CtxY) (nt:Fr):ACode→(Exit→St→Prop)→St→Prop
  | .skip,K,st=>K .normal st
  | .region false _ items ks,K,st=>evl C items (Kept ks K) st
  | .region true ord items ks,K,st=>wpD C (looks items) ord items (Kept ks K) st
  | .seq x y,K,st=>wpx C nt x (Then (wpx C nt y K) K) st
  | .cond c x y,K,st=>wpC (evEnv st.env c) (wpx C nt x K) (wpx C nt y K) st
  | .block id x,K,st=>wpx C nt x (InBlock id K) st
  | .loop x,K,st=>awp C nt (.loop x) K st
  | .scope x,K,st=>C.ro=none∧wpx C nt x (InScope K) st
  | .range f ps x y,K,st=>awp C nt (.range f ps x y) K st
  | .exit id,K,st=>K (.exit id) st
  | .ret,K,st=>K .ret st
theorem wpx_awp {C:CtxY} {nt:Fr}:∀ {c:ACode} {K:Exit→St→Prop} {st:St},wpx C nt c K st→awp C nt c K st
  | .skip,K,st,h=>awp_skip h
  | .region false _ items ks,K,st,h=>awp_region (evl_evs C items _ st h)
  | .region true ord items ks,K,st,h=>by
    simp only [wpx,wpD] at h
    split at h
    · exact awp_evr h
    · exact awp_evd h
  | .seq x y,K,st,h=>by
    have h1:awp C nt x (Then (wpx C nt y K) K) st:=wpx_awp (c:=x) h
    refine awp_seq (awp_mono (fun e st' hk => ?_) h1)
    cases e with
    | normal=>exact wpx_awp (c:=y) hk
    | _=>exact hk
  | .cond c x y,K,st,h=>by
    simp only [wpx,wpC] at h
    split at h
    · rename_i hb;exact awp_cond true hb (fun _=>wpx_awp h) (fun h=>by cases h)
    · rename_i hb;exact awp_cond false hb (fun h=>by cases h) (fun _=>wpx_awp h)
    · exact h.elim
  | .block id x,K,st,h=>awp_block (wpx_awp (c:=x) h)
  | .loop x,K,st,h=>h
  | .scope x,K,st,h=>awp_scope h.1 (wpx_awp (c:=x) h.2)
  | .range f ps x y,K,st,h=>h
  | .exit id,K,st,h=>awp_exit h
  | .ret,K,st,h=>awp_ret h
section
variable {C:CtxY} {nt:Fr} {env:List (Nat×AV)} {heap:List (Nat×AObj)} {next:Nat} {dst:Option Nat} {K:St→Prop} {KE:Exit→St→Prop} {st:St}
@[simp] theorem wpx_skip:wpx C nt .skip KE st=KE .normal st:=rfl
@[simp] theorem wpx_region (o:List Nat) (items:List AItem) (ks:Option (List Nat)):wpx C nt (.region false o items ks) KE st=evl C items (Kept ks KE) st:=rfl
@[simp] theorem wpx_draw (o:List Nat) (items:List AItem) (ks:Option (List Nat)):wpx C nt (.region true o items ks) KE st=wpD C (looks items) o items (Kept ks KE) st:=rfl
@[simp] theorem wpD_true (o:List Nat) (items:List AItem):wpD C true o items K st=evr C K items st:=rfl
@[simp] theorem wpD_false (o:List Nat) (items:List AItem):wpD C false o items K st=evd C o K items 0 [] [] st:=rfl
@[simp] theorem wpx_seq (x y:ACode):wpx C nt (.seq x y) KE st=wpx C nt x (Then (wpx C nt y KE) KE) st:=rfl
@[simp] theorem wpx_cond (c:Opd) (x y:ACode):wpx C nt (.cond c x y) KE st=wpC (evEnv st.env c) (wpx C nt x KE) (wpx C nt y KE) st:=rfl
@[simp] theorem wpx_block (id:Nat) (x:ACode):wpx C nt (.block id x) KE st=wpx C nt x (InBlock id KE) st:=rfl
@[simp] theorem wpx_exit (id:Nat):wpx C nt (.exit id) KE st=KE (.exit id) st:=rfl
@[simp] theorem wpx_ret:wpx C nt .ret KE st=KE .ret st:=rfl
@[simp] theorem wpC_true (x y:St→Prop):wpC (.imm (.bool true)) x y st=x st:=rfl
@[simp] theorem wpC_false (x y:St→Prop):wpC (.imm (.bool false)) x y st=y st:=rfl
@[simp] theorem Then_normal (n:St→Prop):Then n KE .normal st=n st:=rfl
@[simp] theorem Then_exit (n:St→Prop) (id:Nat):Then n KE (.exit id) st=KE (.exit id) st:=rfl
@[simp] theorem Then_ret (n:St→Prop):Then n KE .ret st=KE .ret st:=rfl
@[simp] theorem InBlock_normal (id:Nat):InBlock id KE .normal st=KE .normal st:=rfl
@[simp] theorem InBlock_ret (id:Nat):InBlock id KE .ret st=KE .ret st:=rfl
@[simp] theorem InBlock_exit (id id':Nat):InBlock id KE (.exit id') st=if id'=id then KE .normal st else KE (.exit id') st:=rfl
@[simp] theorem InScope_normal:InScope KE .normal st=KE .normal st:=rfl
@[simp] theorem InScope_exit (id:Nat):InScope KE (.exit id) st=KE (.exit id) st:=rfl
@[simp] theorem InScope_ret:InScope KE .ret st=KE .ret st:=rfl
@[simp] theorem Kept_some (ks:List Nat):Kept (some ks) KE ⟨env,heap,next⟩=KE .normal ⟨keepEnv ks env,heap,next⟩:=rfl
@[simp] theorem Kept_none:Kept none KE st=KE .normal st:=rfl
@[simp] theorem keepEnv_nil (ks:List Nat):keepEnv ks []=[]:=rfl
@[simp] theorem keepEnv_cons (ks:List Nat) (k:Nat) (v:AV) (r:List (Nat×AV)):keepEnv ks ((k,v)::r)=bif ks.contains k then (k,v)::keepEnv ks r else keepEnv ks r:=by
  simp only [keepEnv,List.filter_cons];cases ks.contains k<;>rfl
@[simp] theorem evl_nil:evl C [] K st=K st:=rfl
@[simp] theorem evl_cons (it:AItem) (r:List AItem):evl C (it::r) K st=evIt C it (evl C r K) st:=rfl
@[simp] theorem evIt_none (op:AOp):evIt C ⟨dst,op,none⟩ K st=evOp C dst K st op:=rfl
@[simp] theorem evIt_some (op:AOp) (t:Nat) (want:Bool):evIt C ⟨dst,op,some (t,want)⟩ K st=evGV C dst op K st want ((alGet st.env t).getD .top):=rfl
@[simp] theorem evGV_undef (op:AOp) (want:Bool):evGV C dst op K st want .undef=K (st.after dst .undef []):=rfl
@[simp] theorem evGV_bool (op:AOp) (b:Bool):evGV C dst op K st true (.imm (.bool b))=evG C dst op K st b:=by simp [evGV]
@[simp] theorem evGV_boolf (op:AOp) (b:Bool):evGV C dst op K st false (.imm (.bool b))=evG C dst op K st (!b):=by cases b<;>rfl
@[simp] theorem evG_true (op:AOp):evG C dst op K st true=evOp C dst K st op:=rfl
@[simp] theorem evG_false (op:AOp):evG C dst op K st false=K (st.after dst .undef []):=rfl
@[simp] theorem evRes_some (r:AV) (ups:List (Nat×AObj)):evRes dst K st (some (r,ups))=K (st.after dst r ups):=rfl
@[simp] theorem evRes_none:evRes dst K st none=False:=rfl
@[simp] theorem evOp_call (f:Opd) (args:List Opd):evOp C dst K ⟨env,heap,next⟩ (.call f args)=evCall C dst K ⟨env,heap,next⟩ (args.map (evEnv env)) (evEnv env f):=rfl
@[simp] theorem evCall_func (args:List AV) (f:Nat) (first caps:List AV):evCall C dst K ⟨env,heap,next⟩ args (.func f first caps)=ACall C f (first++args++caps) heap next (evAfter dst env K):=rfl
@[simp] theorem evAfter_some (d:Nat) (r:AV) (heap':List (Nat×AObj)) (next':Nat):evAfter (some d) env K r heap' next'=K ⟨alSet env d r,heap',next'+1⟩:=rfl
@[simp] theorem evAfter_none (r:AV) (heap':List (Nat×AObj)) (next':Nat):evAfter none env K r heap' next'=K ⟨env,heap',next'+1⟩:=rfl
@[simp] theorem after_some (d:Nat) (r:AV) (ups:List (Nat×AObj)):St.after ⟨env,heap,next⟩ (some d) r ups=⟨alSet env d r,applyUps ups heap,next+1⟩:=rfl
@[simp] theorem after_none (r:AV) (ups:List (Nat×AObj)):St.after ⟨env,heap,next⟩ none r ups=⟨env,applyUps ups heap,next+1⟩:=rfl
@[simp] theorem applyUps_nil:applyUps [] heap=heap:=rfl
@[simp] theorem applyUps_cons (k:Nat) (o:AObj) (r:List (Nat×AObj)):applyUps ((k,o)::r) heap=alPut (applyUps r heap) k o:=rfl
@[simp] theorem alPut_nil {α:Type} (i:Nat) (v:α):alPut [] i v=[(i,v)]:=rfl
@[simp] theorem alPut_cons {α:Type} (k i:Nat) (v u:α) (r:List (Nat×α)):alPut ((k,v)::r) i u=if k=i then (i,u)::r else if k=999999 then (i,u)::(k,v)::r else (k,v)::alPut r i u:=rfl
@[simp] theorem alGet_nil {α:Type} (i:Nat):alGet ([]:List (Nat×α)) i=none:=rfl
@[simp] theorem alGet_cons {α:Type} (k i:Nat) (v:α) (r:List (Nat×α)):alGet ((k,v)::r) i=if k=i then some v else alGet r i:=rfl
@[simp] theorem alSet_nil {α:Type} (i:Nat) (v:α):alSet [] i v=[(i,v)]:=rfl
@[simp] theorem alSet_cons {α:Type} (k i:Nat) (v u:α) (r:List (Nat×α)):alSet ((k,v)::r) i u=if k=i then (i,u)::r else (k,v)::alSet r i u:=rfl
@[simp] theorem evEnv_t (n:Nat):evEnv env (.t n)=(alGet env n).getD .top:=rfl
@[simp] theorem evEnv_c (x:AV):evEnv env (.c x)=x:=rfl
@[simp] theorem argEnv_nil (i:Nat):argEnv i []=[]:=rfl
@[simp] theorem argEnv_cons (i:Nat) (x:AV) (xs:List AV):argEnv i (x::xs)=(i,x)::argEnv (i+1) xs:=rfl
@[simp] theorem mapO_nil {α β:Type} (f:α→Option β):mapO f []=some []:=rfl
@[simp] theorem mapO_cons {α β:Type} (f:α→Option β) (a:α) (r:List α):mapO f (a::r)=match f a with
    | some b=>match mapO f r with
      | some bs=>some (b::bs)
      | none=>none
    | none=>none:=rfl
def EndK (KA:AV→List (Nat×AObj)→Nat→Prop) (heap:List (Nat×AObj)) (next:Nat):Option AV→Prop
  | some r=>KA r heap next
  | none=>False
def EndsR (rs:List ARes) (KA:AV→List (Nat×AObj)→Nat→Prop):Exit→St→Prop
  | .ret,st | .normal,st=>EndK KA st.heap st.next (resOf rs st)
  | _,_=>False
theorem ACall.run {C:Ctx} {f:Nat} {F:AFun} (hF:compFun C f=some F.erase) {args:List AV} {KA:AV→List (Nat×AObj)→Nat→Prop} (hn:args.length≤F.nt)
    (h:∀ B,wpx C.plain ⟨F.nt,B⟩ F.body (EndsR F.results KA) {env:=argEnv 0 args,heap:=heap,next:=next}):ACall C f args heap next KA:=ACall.enter hF hn (fun B=>awp_mono (fun e st hk=>by
      have key:∀ {o:Option AV},EndK KA st.heap st.next o→∃ r,o=some r∧KA r st.heap st.next:=fun {o} ho=>by
        cases o with
        | none=>exact ho.elim
        | some r=>exact ⟨r,rfl,ho⟩
      cases e with
      | ret=>exact ⟨.inl rfl,key hk⟩
      | normal=>exact ⟨.inr rfl,key hk⟩
      | _=>exact hk.elim) (wpx_awp (h B)))
def IsIV (d:Nat) (r:IV):AV→List (Nat×AObj)→Nat→Prop:=fun x heap _=>toIV (alGet heap) d x=some r
@[simp] theorem IsIV_eq (d:Nat) (r:IV) (x:AV):IsIV d r x heap next=(toIV (alGet heap) d x=some r):=rfl
theorem APure.run {C:Ctx} {f:Nat} {F:AFun} (hF:compFun C f=some F.erase) {args:List IV} {r:IV} (d:Nat) (hn:args.length≤F.nt)
    (h:∀ B,wpx C.plain ⟨F.nt,B⟩ F.body (EndsR F.results (IsIV d r)) {env:=argEnv 0 (args.map .imm),heap:=[],next:=0}):APure C f args r:=APure.of (d:=d) (ACall.run hF (by simpa using hn) h)
variable {KA:AV→List (Nat×AObj)→Nat→Prop}
@[simp] theorem EndsR_ret (rs:List ARes):EndsR rs KA .ret ⟨env,heap,next⟩=EndK KA heap next (resOf rs ⟨env,heap,next⟩):=rfl
@[simp] theorem EndsR_normal (rs:List ARes):EndsR rs KA .normal ⟨env,heap,next⟩=EndK KA heap next (resOf rs ⟨env,heap,next⟩):=rfl
@[simp] theorem EndK_some (r:AV):EndK KA heap next (some r)=KA r heap next:=rfl
@[simp] theorem EndK_none:EndK KA heap next none=False:=rfl
@[simp] theorem resOf_one (r:ARes):resOf [r] st=resOne st r:=rfl
@[simp] theorem resOf_nil:resOf [] st=some (.tuple []):=rfl
@[simp] theorem resOf_two (r s:ARes) (l:List ARes):resOf (r::s::l) st=match mapO (resOne st) (r::s::l) with
    | some xs=>some (.tuple xs)
    | none=>none:=rfl
@[simp] theorem resOne_tmp (t:Nat):resOne ⟨env,heap,next⟩ (.tmp t)=alGet env t:=rfl
@[simp] theorem resOne_cell (t n:Nat) (ag:Bool):resOne ⟨env,heap,next⟩ (.cell t ag n)=match evalOp (.load ag n (.t t)) (evEnv env) (alGet heap) 0 with
    | some (r,_)=>some r
    | none=>none:=rfl
@[simp] theorem evOp_mov (x:Opd):evOp C dst K ⟨env,heap,next⟩ (.mov x)=evRes dst K ⟨env,heap,next⟩ (evalOp (.mov x) (evEnv env) (alGet heap) next):=rfl
@[simp] theorem evOp_pick (c a b:Opd):evOp C dst K ⟨env,heap,next⟩ (.pick c a b)=evRes dst K ⟨env,heap,next⟩ (evalOp (.pick c a b) (evEnv env) (alGet heap) next):=rfl
@[simp] theorem evOp_alloc (sz:Nat) (rows:List (List AV)):evOp C dst K ⟨env,heap,next⟩ (.alloc sz rows)=evRes dst K ⟨env,heap,next⟩ (evalOp (.alloc sz rows) (evEnv env) (alGet heap) next):=rfl
@[simp] theorem evOp_box (sz:Nat) (x:Opd):evOp C dst K ⟨env,heap,next⟩ (.box sz x)=evRes dst K ⟨env,heap,next⟩ (evalOp (.box sz x) (evEnv env) (alGet heap) next):=rfl
@[simp] theorem evOp_build (zero:List AV) (parts:List (Nat×Nat×Opd)):evOp C dst K ⟨env,heap,next⟩ (.build zero parts)=evRes dst K ⟨env,heap,next⟩ (evalOp (.build zero parts) (evEnv env) (alGet heap) next):=rfl
@[simp] theorem evOp_bslice (sz:Nat) (zero:List AV) (len:Nat) (parts:List (Nat×Opd)):evOp C dst K ⟨env,heap,next⟩ (.bslice sz zero len parts)=evRes dst K ⟨env,heap,next⟩ (evalOp (.bslice sz zero len parts) (evEnv env) (alGet heap) next):=rfl
@[simp] theorem evOp_load (agg:Bool) (n:Nat) (x:Opd):evOp C dst K ⟨env,heap,next⟩ (.load agg n x)=evRes dst K ⟨env,heap,next⟩ (evalOp (.load agg n x) (evEnv env) (alGet heap) next):=rfl
@[simp] theorem evOp_store (n:Nat) (x v:Opd):evOp C dst K ⟨env,heap,next⟩ (.store n x v)=evRes dst K ⟨env,heap,next⟩ (evalOp (.store n x v) (evEnv env) (alGet heap) next):=rfl
@[simp] theorem evOp_fld (off:Nat) (x:Opd):evOp C dst K ⟨env,heap,next⟩ (.fld off x)=evRes dst K ⟨env,heap,next⟩ (evalOp (.fld off x) (evEnv env) (alGet heap) next):=rfl
@[simp] theorem evOp_idx (sz:Nat) (x i:Opd):evOp C dst K ⟨env,heap,next⟩ (.idx sz x i)=evRes dst K ⟨env,heap,next⟩ (evalOp (.idx sz x i) (evEnv env) (alGet heap) next):=rfl
@[simp] theorem evOp_idxa (len sz:Nat) (x i:Opd):evOp C dst K ⟨env,heap,next⟩ (.idxa len sz x i)=evRes dst K ⟨env,heap,next⟩ (evalOp (.idxa len sz x i) (evEnv env) (alGet heap) next):=rfl
@[simp] theorem evOp_bin (op:BinOp) (x y:Opd):evOp C dst K ⟨env,heap,next⟩ (.bin op x y)=evRes dst K ⟨env,heap,next⟩ (evalOp (.bin op x y) (evEnv env) (alGet heap) next):=rfl
@[simp] theorem evOp_eqb (neg:Bool) (x y:Opd):evOp C dst K ⟨env,heap,next⟩ (.eqb neg x y)=evRes dst K ⟨env,heap,next⟩ (evalOp (.eqb neg x y) (evEnv env) (alGet heap) next):=rfl
@[simp] theorem evOp_eqs (neg:Bool) (ks:List Nat) (x y:Opd):evOp C dst K ⟨env,heap,next⟩ (.eqs neg ks x y)=evRes dst K ⟨env,heap,next⟩ (evalOp (.eqs neg ks x y) (evEnv env) (alGet heap) next):=rfl
@[simp] theorem evOp_eqnil (neg:Bool) (x y:Opd):evOp C dst K ⟨env,heap,next⟩ (.eqnil neg x y)=evRes dst K ⟨env,heap,next⟩ (evalOp (.eqnil neg x y) (evEnv env) (alGet heap) next):=rfl
@[simp] theorem evOp_not (x:Opd):evOp C dst K ⟨env,heap,next⟩ (.not x)=evRes dst K ⟨env,heap,next⟩ (evalOp (.not x) (evEnv env) (alGet heap) next):=rfl
@[simp] theorem evOp_neg (x:Opd):evOp C dst K ⟨env,heap,next⟩ (.neg x)=evRes dst K ⟨env,heap,next⟩ (evalOp (.neg x) (evEnv env) (alGet heap) next):=rfl
@[simp] theorem evOp_conv (k:IntKind) (x:Opd):evOp C dst K ⟨env,heap,next⟩ (.conv k x)=evRes dst K ⟨env,heap,next⟩ (evalOp (.conv k x) (evEnv env) (alGet heap) next):=rfl
@[simp] theorem evOp_len (x:Opd):evOp C dst K ⟨env,heap,next⟩ (.len x)=evRes dst K ⟨env,heap,next⟩ (evalOp (.len x) (evEnv env) (alGet heap) next):=rfl
@[simp] theorem evOp_lens (x:Opd):evOp C dst K ⟨env,heap,next⟩ (.lens x)=evRes dst K ⟨env,heap,next⟩ (evalOp (.lens x) (evEnv env) (alGet heap) next):=rfl
@[simp] theorem evOp_lenm (x:Opd):evOp C dst K ⟨env,heap,next⟩ (.lenm x)=evRes dst K ⟨env,heap,next⟩ (evalOp (.lenm x) (evEnv env) (alGet heap) next):=rfl
@[simp] theorem evOp_mm (max:Bool) (x y:Opd):evOp C dst K ⟨env,heap,next⟩ (.mm max x y)=evRes dst K ⟨env,heap,next⟩ (evalOp (.mm max x y) (evEnv env) (alGet heap) next):=rfl
@[simp] theorem evOp_app (sz by_:Nat) (s x:Opd):evOp C dst K ⟨env,heap,next⟩ (.app sz by_ s x)=evRes dst K ⟨env,heap,next⟩ (evalOp (.app sz by_ s x) (evEnv env) (alGet heap) next):=rfl
@[simp] theorem evOp_ext (x:Opd) (i:Nat):evOp C dst K ⟨env,heap,next⟩ (.ext x i)=evRes dst K ⟨env,heap,next⟩ (evalOp (.ext x i) (evEnv env) (alGet heap) next):=rfl
@[simp] theorem evOp_mkf (f:Nat) (first caps:List Opd):evOp C dst K ⟨env,heap,next⟩ (.mkf f first caps)=evRes dst K ⟨env,heap,next⟩ (evalOp (.mkf f first caps) (evEnv env) (alGet heap) next):=rfl
@[simp] theorem evOp_mkmap  : evOp C dst K ⟨env,heap,next⟩ (.mkmap)=evRes dst K ⟨env,heap,next⟩ (evalOp (.mkmap) (evEnv env) (alGet heap) next):=rfl
@[simp] theorem evOp_look (str:Bool) (zero:AV) (ok:Bool) (m k:Opd):evOp C dst K ⟨env,heap,next⟩ (.look str zero ok m k)=evRes dst K ⟨env,heap,next⟩ (evalOp (.look str zero ok m k) (evEnv env) (alGet heap) next):=rfl
@[simp] theorem evOp_upd (str:Bool) (m k v:Opd):evOp C dst K ⟨env,heap,next⟩ (.upd str m k v)=evRes dst K ⟨env,heap,next⟩ (evalOp (.upd str m k v) (evEnv env) (alGet heap) next):=rfl
@[simp] theorem evOp_mks (sz by_:Nat) (zero:List AV) (n:Opd):evOp C dst K ⟨env,heap,next⟩ (.mks sz by_ zero n)=evRes dst K ⟨env,heap,next⟩ (evalOp (.mks sz by_ zero n) (evEnv env) (alGet heap) next):=rfl
@[simp] theorem evOp_slc (sz:Nat) (x:Opd) (lo hi:Option Opd):evOp C dst K ⟨env,heap,next⟩ (.slc sz x lo hi)=evRes dst K ⟨env,heap,next⟩ (evalOp (.slc sz x lo hi) (evEnv env) (alGet heap) next):=rfl
@[simp] theorem evOp_nck (x:Opd):evOp C dst K ⟨env,heap,next⟩ (.nck x)=evRes dst K ⟨env,heap,next⟩ (evalOp (.nck x) (evEnv env) (alGet heap) next):=rfl
@[simp] theorem evOp_copy (sz:Nat) (d x:Opd):evOp C dst K ⟨env,heap,next⟩ (.copy sz d x)=evRes dst K ⟨env,heap,next⟩ (evalOp (.copy sz d x) (evEnv env) (alGet heap) next):=rfl
@[simp] theorem evOp_ixa (len sz:Nat) (x i:Opd):evOp C dst K ⟨env,heap,next⟩ (.ixa len sz x i)=evRes dst K ⟨env,heap,next⟩ (evalOp (.ixa len sz x i) (evEnv env) (alGet heap) next):=rfl
end
section
variable {C:CtxY} {nt:Fr} {env:List (Nat×AV)} {heap:List (Nat×AObj)} {next:Nat} {dst:Option Nat} {K:St→Prop} {KD:List Nat→AV→List (Nat×AObj)→Prop} {st:St}
@[simp] theorem evd_nil (ord:List Nat) (j:Nat) (W R:List (Nat×Nat)):evd C ord K [] j W R st=K st:=rfl
@[simp] theorem evd_cons (ord:List Nat) (it:AItem) (r:List AItem) (j:Nat) (W R:List (Nat×Nat)):evd C ord K (it::r) j W R st=dIt C it (dNext ord j W R it.dst st (evd C ord K r)) st:=rfl
@[simp] theorem evr_nil:evr C K [] st=K st:=rfl
@[simp] theorem evr_cons (it:AItem) (r:List AItem):evr C K (it::r) st=dIt C it (rNext it.dst st (evr C K r)) st:=rfl
@[simp] theorem dIt_none (op:AOp):dIt C ⟨dst,op,none⟩ KD st=dOp C KD st op:=rfl
@[simp] theorem dIt_some (op:AOp) (t:Nat) (want:Bool):dIt C ⟨dst,op,some (t,want)⟩ KD st=dGV C op KD st want ((alGet st.env t).getD .top):=rfl
@[simp] theorem dGV_undef (op:AOp) (want:Bool):dGV C op KD st want .undef=KD [] .undef []:=rfl
@[simp] theorem dGV_bool (op:AOp) (b:Bool):dGV C op KD st true (.imm (.bool b))=dG C op KD st b:=by simp [dGV]
@[simp] theorem dGV_boolf (op:AOp) (b:Bool):dGV C op KD st false (.imm (.bool b))=dG C op KD st (!b):=by cases b<;>rfl
@[simp] theorem dG_true (op:AOp):dG C op KD st true=dOp C KD st op:=rfl
@[simp] theorem dG_false (op:AOp):dG C op KD st false=KD [] .undef []:=rfl
@[simp] theorem dRes_some (rd:List Nat) (r:AV) (ups:List (Nat×AObj)):dRes KD rd (some (r,ups))=KD rd r ups:=rfl
@[simp] theorem dRes_none (rd:List Nat):dRes KD rd none=False:=rfl
@[simp] theorem dNext_eq (ord:List Nat) (j:Nat) (W R:List (Nat×Nat)) (nx:Nat→List (Nat×Nat)→List (Nat×Nat)→St→Prop) (rd:List Nat) (r:AV) (ups:List (Nat×AObj)) :
    dNext ord j W R dst st nx rd r ups=(okAt ord j W R (upIds ups) rd=true∧nx (j+1) (addAt j (upIds ups) W) (addAt j rd R) (st.after dst r ups)):=rfl
@[simp] theorem rNext_nil (nx:St→Prop) (rd:List Nat) (r:AV):rNext dst st nx rd r []=nx (st.after dst r []):=by simp [rNext]
@[simp] theorem dOp_call (f:Opd) (args:List Opd):dOp C KD ⟨env,heap,next⟩ (.call f args)=dCall C KD heap (args.map (evEnv env)) (evEnv env f):=rfl
@[simp] theorem dCall_func (args:List AV) (f:Nat) (first caps:List AV):dCall C KD heap args (.func f first caps)=DCall C f (first++args++caps) heap KD:=rfl
@[simp] theorem dOp_mov (x:Opd):dOp C KD ⟨env,heap,next⟩ (.mov x)=dRes KD (readIds (.mov x) (evEnv env)) (evalOp (.mov x) (evEnv env) (alGet heap) next):=rfl
@[simp] theorem dOp_pick (c a b:Opd):dOp C KD ⟨env,heap,next⟩ (.pick c a b)=dRes KD (readIds (.pick c a b) (evEnv env)) (evalOp (.pick c a b) (evEnv env) (alGet heap) next):=rfl
@[simp] theorem dOp_alloc (sz:Nat) (rows:List (List AV)):dOp C KD ⟨env,heap,next⟩ (.alloc sz rows)=dRes KD (readIds (.alloc sz rows) (evEnv env)) (evalOp (.alloc sz rows) (evEnv env) (alGet heap) next):=rfl
@[simp] theorem dOp_box (sz:Nat) (x:Opd):dOp C KD ⟨env,heap,next⟩ (.box sz x)=dRes KD (readIds (.box sz x) (evEnv env)) (evalOp (.box sz x) (evEnv env) (alGet heap) next):=rfl
@[simp] theorem dOp_build (zero:List AV) (parts:List (Nat×Nat×Opd)):dOp C KD ⟨env,heap,next⟩ (.build zero parts)=dRes KD (readIds (.build zero parts) (evEnv env)) (evalOp (.build zero parts) (evEnv env) (alGet heap) next):=rfl
@[simp] theorem dOp_bslice (sz:Nat) (zero:List AV) (len:Nat) (parts:List (Nat×Opd)):dOp C KD ⟨env,heap,next⟩ (.bslice sz zero len parts)=dRes KD (readIds (.bslice sz zero len parts) (evEnv env)) (evalOp (.bslice sz zero len parts) (evEnv env) (alGet heap) next):=rfl
@[simp] theorem dOp_load (agg:Bool) (n:Nat) (x:Opd):dOp C KD ⟨env,heap,next⟩ (.load agg n x)=dRes KD (readIds (.load agg n x) (evEnv env)) (evalOp (.load agg n x) (evEnv env) (alGet heap) next):=rfl
@[simp] theorem dOp_store (n:Nat) (x v:Opd):dOp C KD ⟨env,heap,next⟩ (.store n x v)=dRes KD (readIds (.store n x v) (evEnv env)) (evalOp (.store n x v) (evEnv env) (alGet heap) next):=rfl
@[simp] theorem dOp_fld (off:Nat) (x:Opd):dOp C KD ⟨env,heap,next⟩ (.fld off x)=dRes KD (readIds (.fld off x) (evEnv env)) (evalOp (.fld off x) (evEnv env) (alGet heap) next):=rfl
@[simp] theorem dOp_idx (sz:Nat) (x i:Opd):dOp C KD ⟨env,heap,next⟩ (.idx sz x i)=dRes KD (readIds (.idx sz x i) (evEnv env)) (evalOp (.idx sz x i) (evEnv env) (alGet heap) next):=rfl
@[simp] theorem dOp_idxa (len sz:Nat) (x i:Opd):dOp C KD ⟨env,heap,next⟩ (.idxa len sz x i)=dRes KD (readIds (.idxa len sz x i) (evEnv env)) (evalOp (.idxa len sz x i) (evEnv env) (alGet heap) next):=rfl
@[simp] theorem dOp_bin (op:BinOp) (x y:Opd):dOp C KD ⟨env,heap,next⟩ (.bin op x y)=dRes KD (readIds (.bin op x y) (evEnv env)) (evalOp (.bin op x y) (evEnv env) (alGet heap) next):=rfl
@[simp] theorem dOp_eqb (neg:Bool) (x y:Opd):dOp C KD ⟨env,heap,next⟩ (.eqb neg x y)=dRes KD (readIds (.eqb neg x y) (evEnv env)) (evalOp (.eqb neg x y) (evEnv env) (alGet heap) next):=rfl
@[simp] theorem dOp_eqs (neg:Bool) (ks:List Nat) (x y:Opd):dOp C KD ⟨env,heap,next⟩ (.eqs neg ks x y)=dRes KD (readIds (.eqs neg ks x y) (evEnv env)) (evalOp (.eqs neg ks x y) (evEnv env) (alGet heap) next):=rfl
@[simp] theorem dOp_eqnil (neg:Bool) (x y:Opd):dOp C KD ⟨env,heap,next⟩ (.eqnil neg x y)=dRes KD (readIds (.eqnil neg x y) (evEnv env)) (evalOp (.eqnil neg x y) (evEnv env) (alGet heap) next):=rfl
@[simp] theorem dOp_not (x:Opd):dOp C KD ⟨env,heap,next⟩ (.not x)=dRes KD (readIds (.not x) (evEnv env)) (evalOp (.not x) (evEnv env) (alGet heap) next):=rfl
@[simp] theorem dOp_neg (x:Opd):dOp C KD ⟨env,heap,next⟩ (.neg x)=dRes KD (readIds (.neg x) (evEnv env)) (evalOp (.neg x) (evEnv env) (alGet heap) next):=rfl
@[simp] theorem dOp_conv (k:IntKind) (x:Opd):dOp C KD ⟨env,heap,next⟩ (.conv k x)=dRes KD (readIds (.conv k x) (evEnv env)) (evalOp (.conv k x) (evEnv env) (alGet heap) next):=rfl
@[simp] theorem dOp_len (x:Opd):dOp C KD ⟨env,heap,next⟩ (.len x)=dRes KD (readIds (.len x) (evEnv env)) (evalOp (.len x) (evEnv env) (alGet heap) next):=rfl
@[simp] theorem dOp_lens (x:Opd):dOp C KD ⟨env,heap,next⟩ (.lens x)=dRes KD (readIds (.lens x) (evEnv env)) (evalOp (.lens x) (evEnv env) (alGet heap) next):=rfl
@[simp] theorem dOp_lenm (x:Opd):dOp C KD ⟨env,heap,next⟩ (.lenm x)=dRes KD (readIds (.lenm x) (evEnv env)) (evalOp (.lenm x) (evEnv env) (alGet heap) next):=rfl
@[simp] theorem dOp_mm (max:Bool) (x y:Opd):dOp C KD ⟨env,heap,next⟩ (.mm max x y)=dRes KD (readIds (.mm max x y) (evEnv env)) (evalOp (.mm max x y) (evEnv env) (alGet heap) next):=rfl
@[simp] theorem dOp_app (sz by_:Nat) (s x:Opd):dOp C KD ⟨env,heap,next⟩ (.app sz by_ s x)=dRes KD (readIds (.app sz by_ s x) (evEnv env)) (evalOp (.app sz by_ s x) (evEnv env) (alGet heap) next):=rfl
@[simp] theorem dOp_ext (x:Opd) (i:Nat):dOp C KD ⟨env,heap,next⟩ (.ext x i)=dRes KD (readIds (.ext x i) (evEnv env)) (evalOp (.ext x i) (evEnv env) (alGet heap) next):=rfl
@[simp] theorem dOp_mkf (f:Nat) (first caps:List Opd):dOp C KD ⟨env,heap,next⟩ (.mkf f first caps)=dRes KD (readIds (.mkf f first caps) (evEnv env)) (evalOp (.mkf f first caps) (evEnv env) (alGet heap) next):=rfl
@[simp] theorem dOp_mkmap  : dOp C KD ⟨env,heap,next⟩ (.mkmap)=dRes KD (readIds (.mkmap) (evEnv env)) (evalOp (.mkmap) (evEnv env) (alGet heap) next):=rfl
@[simp] theorem dOp_look (str:Bool) (zero:AV) (ok:Bool) (m k:Opd):dOp C KD ⟨env,heap,next⟩ (.look str zero ok m k)=dRes KD (readIds (.look str zero ok m k) (evEnv env)) (evalOp (.look str zero ok m k) (evEnv env) (alGet heap) next):=rfl
@[simp] theorem dOp_upd (str:Bool) (m k v:Opd):dOp C KD ⟨env,heap,next⟩ (.upd str m k v)=dRes KD (readIds (.upd str m k v) (evEnv env)) (evalOp (.upd str m k v) (evEnv env) (alGet heap) next):=rfl
@[simp] theorem dOp_mks (sz by_:Nat) (zero:List AV) (n:Opd):dOp C KD ⟨env,heap,next⟩ (.mks sz by_ zero n)=dRes KD (readIds (.mks sz by_ zero n) (evEnv env)) (evalOp (.mks sz by_ zero n) (evEnv env) (alGet heap) next):=rfl
@[simp] theorem dOp_slc (sz:Nat) (x:Opd) (lo hi:Option Opd):dOp C KD ⟨env,heap,next⟩ (.slc sz x lo hi)=dRes KD (readIds (.slc sz x lo hi) (evEnv env)) (evalOp (.slc sz x lo hi) (evEnv env) (alGet heap) next):=rfl
@[simp] theorem dOp_nck (x:Opd):dOp C KD ⟨env,heap,next⟩ (.nck x)=dRes KD (readIds (.nck x) (evEnv env)) (evalOp (.nck x) (evEnv env) (alGet heap) next):=rfl
@[simp] theorem dOp_copy (sz:Nat) (d x:Opd):dOp C KD ⟨env,heap,next⟩ (.copy sz d x)=dRes KD (readIds (.copy sz d x) (evEnv env)) (evalOp (.copy sz d x) (evEnv env) (alGet heap) next):=rfl
@[simp] theorem dOp_ixa (len sz:Nat) (x i:Opd):dOp C KD ⟨env,heap,next⟩ (.ixa len sz x i)=dRes KD (readIds (.ixa len sz x i) (evEnv env)) (evalOp (.ixa len sz x i) (evEnv env) (alGet heap) next):=rfl
end
end Go.Proofs.YtjkljacdbljkpaaGreatDoor
namespace Go.Proofs.YtjkljacdbljkpaaGreatDoor
open Go.RowKit
set_option linter.unusedVariables false
set_option linter.unusedSimpArgs false
section
variable {C:CtxY} {nt:Fr} {x:ACode} {K:Exit→St→Prop} {st:St}
end
@[simp] theorem forall_mem_nil' {α:Type} {p:α→Prop}:(∀ x∈([]:List α),p x)=True:=by simp
theorem wrap_i64 {x:Int} (h1 : -9223372036854775808≤x) (h2:x < 9223372036854775808):IntKind.i64.wrap x=x:=by
  simp [IntKind.wrap,IntKind.bits,IntKind.signed,Int.bmod_def]
  omega
theorem wrap_u64 {x:Int} (h1:0≤x) (h2:x < 18446744073709551616):IntKind.u64.wrap x=x:=by
  simp [IntKind.wrap,IntKind.bits,IntKind.signed]
  omega
end Go.Proofs.YtjkljacdbljkpaaGreatDoor
namespace Go.Proofs.YtjkljacdbljkpaaGreatDoor
open Go.RowKit
set_option linter.unusedVariables false
set_option linter.unusedSimpArgs false
def setAll {α:Type}:List (Nat×α)→List (Nat×α)→List (Nat×α)
  | [],l=>l
  | (k,v)::r,l=>setAll r (alSet l k v)
@[simp] theorem setAll_nil {α:Type} (l:List (Nat×α)):setAll [] l=l:=rfl
@[simp] theorem setAll_cons {α:Type} (k:Nat) (v:α) (r l:List (Nat×α)):setAll ((k,v)::r) l=setAll r (alSet l k v):=rfl
section
variable {C:CtxY} {nt:Fr} {x:ACode} {K:Exit→St→Prop}
end
end Go.Proofs.YtjkljacdbljkpaaGreatDoor
namespace Go.Proofs.YtjkljacdbljkpaaGreatDoor
open Go.RowKit
set_option linter.unusedVariables false
set_option linter.unusedSimpArgs false
theorem obind {α β:Type} {x:Option α} {f:α→Option β} {r:β} (h:x.bind f=some r):∃ a,x=some a∧f a=some r:=Option.bind_eq_some_iff.1 h
def idxI {α:Type} (l:List α) (n:Int):Option α:=if 0≤n then l[n.toNat]? else none
theorem idxI_some {α:Type} {l:List α} {n:Int} {e:α} (h:idxI l n=some e):0≤n∧l[n.toNat]?=some e∧n.toNat < l.length∧n < l.length∧∃ h:n.toNat < l.length,l[n.toNat]=e:=by
  unfold idxI at h;split at h
  · obtain ⟨h1,h2⟩:=List.getElem?_eq_some_iff.1 h
    exact ⟨‹_›,h,h1,by omega,h1,h2⟩
  · cases h
theorem grd {α:Type} {b:Bool} {x y:Option α} {r:α} (h:(bif b then x else y)=some r):(b=true∧x=some r)∨(b=false∧y=some r):=by
  cases b
  · exact .inr ⟨rfl,h⟩
  · exact .inl ⟨rfl,h⟩
theorem awp_reg {C:CtxY} {nt:Fr} {o:List Nat} {items:List AItem} {ks:Option (List Nat)} {K:Exit→St→Prop} {st:St} (h:evl C items (Kept ks K) st):awp C nt (.region false o items ks) K st:=
  awp_region (evl_evs C items _ st h)
theorem awp_drw {C:CtxY} {nt:Fr} {o:List Nat} {items:List AItem} {ks:Option (List Nat)} {K:Exit→St→Prop} {st:St} (h:wpD C (looks items) o items (Kept ks K) st):awp C nt (.region true o items ks) K st:=
  wpx_awp h
theorem awp_if {C:CtxY} {nt:Fr} {c:Opd} {x y:ACode} {K:Exit→St→Prop} {st:St} (b:Bool) (hc:evEnv st.env c=.imm (.bool b)) (h1:b=true→awp C nt x K st) (h2:b=false→awp C nt y K st):awp C nt (.cond c x y) K st:=
  awp_cond b hc h1 h2
theorem inb_eq {id:Nat} {K:Exit→St→Prop} {st:St} (h:K .normal st):InBlock id K (.exit id) st:=by
  simp only [InBlock_exit,if_true];exact h
def forFrom {σ ρ:Type} (f:Nat→σ→Option (σ ⊕ ρ)):Nat→Nat→σ→Option (σ ⊕ ρ)
  | _,0,s=>some (.inl s)
  | i,k+1,s=>match f i s with
    | none=>none
    | some (.inr r)=>some (.inr r)
    | some (.inl s')=>forFrom f (i+1) k s'
def forR {σ ρ:Type} (n:Int) (f:Nat→σ→Option (σ ⊕ ρ)) (s:σ):Option (σ ⊕ ρ):=bif Nat.blt n.toNat 4611686018427387904 then forFrom f 0 n.toNat s else none
theorem forR_pos {σ ρ:Type} {n:Int} {f:Nat→σ→Option (σ ⊕ ρ)} {s:σ} (hn:n < 4611686018427387904):forR n f s=forFrom f 0 n.toNat s:=by
  have:Nat.blt n.toNat 4611686018427387904=true:=by simp only [Nat.blt_eq];omega
  unfold forR;rw [this];rfl
theorem forR_some {σ ρ:Type} {n:Int} {f:Nat→σ→Option (σ ⊕ ρ)} {s:σ} {o:σ ⊕ ρ} (h:forR n f s=some o):n < 4611686018427387904∧forFrom f 0 n.toNat s=some o:=by
  unfold forR at h
  cases hb:Nat.blt n.toNat 4611686018427387904 with
  | true=>rw [hb] at h;simp only [Nat.blt_eq] at hb;exact ⟨by omega,h⟩
  | false=>rw [hb] at h;cases h
def LoopK {σ ρ:Type} (W:σ→St) (K:Exit→St→Prop) (out:σ ⊕ ρ) (o:σ ⊕ ρ):Exit→St→Prop
  | .normal,st=>∃ s',o=.inl s'∧Weak st (W s')
  | e,st=>∃ y,o=.inr y∧(out=.inr y→K e st)
theorem awp_forR {C:CtxY} {nt:Fr} {x:ACode} {K:Exit→St→Prop} {st:St} {σ ρ:Type} {n:Int} {f:Nat→σ→Option (σ ⊕ ρ)} {s0:σ} {out:σ ⊕ ρ} (hl:forR n f s0=some out)
    (E:Nat→σ→List (Nat×AV)) (H:Nat→σ→List (Nat×AObj)) (h0:Weak st ⟨E 0 s0,H 0 s0,st.next⟩)
    (body:∀ (i:Nat) (s:σ) (o:σ ⊕ ρ),(i:Int) < n→IntKind.i64.wrap ((i:Int)+1)=(i:Int)+1→f i s=some o→awp C nt x (LoopK (fun s=>⟨E (i+1) s,H (i+1) s,st.next⟩) K out o) ⟨E i s,H i s,st.next⟩)
    (last:∀ (m:Nat) (s:σ),¬ (m:Int) < n→out=.inl s→awp C nt x (Then (fun _=>False) K) ⟨E m s,H m s,st.next⟩):awp C nt (.loop x) K st:=by
  obtain ⟨hn,hl⟩:=forR_some hl
  refine awp_loop (ι:={p:Nat×σ // p.1≤n.toNat∧forFrom f p.1 (n.toNat - p.1) p.2=some out}) (fun p=>⟨E p.1.1 p.1.2,H p.1.1 p.1.2,st.next⟩) (fun p=>n.toNat - p.1.1) ⟨(0,s0),Nat.zero_le _,hl⟩ (fun _=>Nat.le_refl _) h0 (Nat.le_refl _) ?_
  rintro ⟨⟨i,s⟩,hi,hf⟩
  simp only at hi hf
  rcases Nat.lt_or_ge i n.toNat with h | h
  · obtain ⟨k,hk⟩:∃ k,n.toNat - i=k+1:=⟨n.toNat - i - 1,by omega⟩
    rw [hk] at hf
    simp only [forFrom] at hf
    split at hf
    · cases hf
    · rename_i r hr
      cases hf
      refine awp_mono ?_ (body i s _ (by omega) (wrap_i64 (by omega) (by omega)) hr)
      intro e st' hK
      cases e with
      | normal=>obtain ⟨s',h1,_⟩:=hK;cases h1
      | _=>obtain ⟨y,h1,h2⟩:=hK;cases h1;exact h2 rfl
    · rename_i s' hr
      refine awp_mono ?_ (body i s _ (by omega) (wrap_i64 (by omega) (by omega)) hr)
      intro e st' hK
      cases e with
      | normal=>
        obtain ⟨s'',h1,h2⟩:=hK
        cases h1
        exact ⟨⟨(i+1,s'),h,by simp only;rw [show n.toNat - (i+1)=k by omega];exact hf⟩,by simp only;omega,h2⟩
      | _=>obtain ⟨y,h1,h2⟩:=hK;cases h1
  · obtain rfl:i=n.toNat:=by omega
    simp only [Nat.sub_self,forFrom,Option.some.injEq] at hf
    refine awp_mono ?_ (last n.toNat s (by omega) hf.symm)
    intro e st' hK
    cases e with
    | normal=>exact hK.elim
    | _=>exact hK
def iterN {σ ρ:Type} (f:σ→Option (σ ⊕ ρ)):Nat→σ→Option ρ
  | 0,_=>none
  | k+1,s=>match f s with
    | none=>none
    | some (.inr r)=>some r
    | some (.inl s')=>iterN f k s'
theorem iterN_mono {σ ρ:Type} {f:σ→Option (σ ⊕ ρ)}:∀ {k:Nat} {s:σ} {r:ρ},iterN f k s=some r→∀ {k':Nat},k≤k'→iterN f k' s=some r
  | 0,_,_,h,_,_=>by cases h
  | k+1,s,r,h,k',hk=>by
    obtain ⟨m,rfl⟩:∃ m,k'=m+1:=⟨k' - 1,by omega⟩
    simp only [iterN] at h ⊢
    split at h
    · cases h
    · exact h
    · exact iterN_mono h (by omega)
open Classical in
noncomputable def iter {σ ρ:Type} (f:σ→Option (σ ⊕ ρ)) (s:σ):Option ρ:=if h:∃ r,∃ k,iterN f k s=some r then some h.choose else none
theorem iter_some {σ ρ:Type} {f:σ→Option (σ ⊕ ρ)} {s:σ} {r:ρ}:iter f s=some r↔∃ k,iterN f k s=some r:=by
  unfold iter
  split
  · rename_i h
    obtain ⟨k,hk⟩:=h.choose_spec
    simp only [Option.some.injEq]
    constructor
    · intro e;exact ⟨k,by rw [←e];exact hk⟩
    · rintro ⟨k',hk'⟩
      have h1:=iterN_mono hk (Nat.le_max_left k k')
      have h2:=iterN_mono hk' (Nat.le_max_right k k')
      rw [h1] at h2;exact Option.some.inj h2
  · rename_i h
    constructor
    · intro e;cases e
    · rintro ⟨k,hk⟩;exact absurd ⟨r,k,hk⟩ h
theorem iter_eq {σ ρ:Type} (f:σ→Option (σ ⊕ ρ)) (s:σ):iter f s=match f s with
    | none=>none
    | some (.inr r)=>some r
    | some (.inl s')=>iter f s':=by
  apply Option.ext
  intro r
  rw [iter_some]
  constructor
  · rintro ⟨k,hk⟩
    cases k with
    | zero=>cases hk
    | succ k=>
      simp only [iterN] at hk
      split at hk
      · cases hk
      · exact hk
      · exact iter_some.2 ⟨k,hk⟩
  · intro h
    split at h
    · cases h
    · rename_i e;exact ⟨1,by simp only [iterN,e];exact h⟩
    · rename_i e
      obtain ⟨k,hk⟩:=iter_some.1 h
      exact ⟨k+1,by simp only [iterN,e];exact hk⟩
theorem awp_iter {C:CtxY} {nt:Fr} {x:ACode} {K:Exit→St→Prop} {st:St} {σ ρ:Type} {f:σ→Option (σ ⊕ ρ)} {s0:σ} {out:ρ} (hl:iter f s0=some out)
    (E:σ→List (Nat×AV)) (H:σ→List (Nat×AObj)) (h0:Weak st ⟨E s0,H s0,st.next⟩)
    (body:∀ (s:σ) (o:σ ⊕ ρ),f s=some o→awp C nt x (LoopK (fun s=>⟨E s,H s,st.next⟩) K (.inr out) o) ⟨E s,H s,st.next⟩):awp C nt (.loop x) K st:=by
  obtain ⟨k,hk⟩:=iter_some.1 hl
  refine awp_loop (ι:={p:Nat×σ // iterN f p.1 p.2=some out}) (fun p=>⟨E p.1.2,H p.1.2,st.next⟩) (fun p=>p.1.1) ⟨(k,s0),hk⟩ (fun _=>Nat.le_refl _) h0 (Nat.le_refl _) ?_
  rintro ⟨⟨i,s⟩,hf⟩
  simp only at hf
  cases i with
  | zero=>cases hf
  | succ i=>
    simp only [iterN] at hf
    split at hf
    · cases hf
    · rename_i r hr
      cases hf
      refine awp_mono ?_ (body s _ hr)
      intro e st' hK
      cases e with
      | normal=>obtain ⟨s',h1,_⟩:=hK;cases h1
      | _=>obtain ⟨y,h1,h2⟩:=hK;cases h1;exact h2 rfl
    · rename_i s' hr
      refine awp_mono ?_ (body s _ hr)
      intro e st' hK
      cases e with
      | normal=>obtain ⟨s'',h1,h2⟩:=hK;cases h1;exact ⟨⟨(i,s'),hf⟩,by simp only;omega,h2⟩
      | _=>obtain ⟨y,h1,h2⟩:=hK;cases h1
theorem APure.start {C:Ctx} {f:Nat} {F:AFun} (hF:compFun C f=some F.erase) {args:List IV} {r:IV} (d:Nat) (hn:args.length≤F.nt)
    (h:∀ B,awp C.plain ⟨F.nt,B⟩ F.body (EndsR F.results (IsIV d r)) {env:=argEnv 0 (args.map .imm),heap:=[],next:=0}):APure C f args r:=APure.of (d:=d) (ACall.enter hF (by simpa using hn) (fun B=>awp_mono (fun e st hk=>by
      have key:∀ {o:Option AV},EndK (IsIV d r) st.heap st.next o→∃ x,o=some x∧IsIV d r x st.heap st.next:=fun {o} ho=>by
        cases o with
        | none=>exact ho.elim
        | some x=>exact ⟨x,rfl,ho⟩
      cases e with
      | ret=>exact ⟨.inl rfl,key hk⟩
      | normal=>exact ⟨.inr rfl,key hk⟩
      | _=>exact hk.elim) (h B)))
end Go.Proofs.YtjkljacdbljkpaaGreatDoor
namespace Go.Proofs.YtjkljacdbljkpaaGreatDoor
open Go.RowKit
set_option linter.unusedVariables false
set_option linter.unusedSimpArgs false
def rowI (n:Int):List IV:=[.int .i64 n]
def rowK (k:IntKind) (n:Int):List IV:=[.int k n]
def rowB (b:Bool):List IV:=[.bool b]
def rowS (s:ByteArray):List IV:=[.str s]
def rowL {α:Type} (f:α→List IV) (l:List α):List IV:=[.slice (l.map f)]
def rowA (r:List IV):List AV:=r.map .imm
abbrev vI (n:Int):AV:=.imm (.int .i64 n)
abbrev vB (b:Bool):AV:=.imm (.bool b)
theorem cond_t {α:Type} {b:Bool} {x y r:α} (g:b=true) (h:(bif b then x else y)=r):x=r:=by subst g;exact h
theorem cond_f {α:Type} {b:Bool} {x y r:α} (g:b=false) (h:(bif b then x else y)=r):y=r:=by subst g;exact h
theorem awp_ifT {C:CtxY} {nt:Fr} {c:Opd} {x y:ACode} {K:Exit→St→Prop} {st:St} (hc:evEnv st.env c=.imm (.bool true)) (h1:awp C nt x K st):awp C nt (.cond c x y) K st:=
  awp_cond true hc (fun _=>h1) (fun h=>by cases h)
theorem awp_ifF {C:CtxY} {nt:Fr} {c:Opd} {x y:ACode} {K:Exit→St→Prop} {st:St} (hc:evEnv st.env c=.imm (.bool false)) (h1:awp C nt y K st):awp C nt (.cond c x y) K st:=
  awp_cond false hc (fun h=>by cases h) (fun _=>h1)
theorem then_x {n:St→Prop} {K:Exit→St→Prop} {id:Nat} {st:St} (h:K (.exit id) st):Then n K (.exit id) st:=h
theorem then_n {n:St→Prop} {K:Exit→St→Prop} {st:St} (h:n st):Then n K .normal st:=h
theorem inb_n {id:Nat} {K:Exit→St→Prop} {st:St} (h:K .normal st):InBlock id K .normal st:=h
def slcI {α:Type} (l:List α) (a b:Int):Option (List α):=if 0≤a∧a≤b∧b≤(l.length:Int) then some ((l.take b.toNat).drop a.toNat) else none
theorem slcI_some {α:Type} {l:List α} {a b:Int} {e:List α} (h:slcI l a b=some e):0≤a∧a≤b∧b≤(l.length:Int)∧(l.take b.toNat).drop a.toNat=e:=by
  unfold slcI at h;split at h
  · rename_i hh;exact ⟨hh.1,hh.2.1,hh.2.2,Option.some.inj h⟩
  · cases h
def remI (k:IntKind) (a b:Int):Option Int:=if b=0 then none else some (a.tmod b)
theorem remI_some {k:IntKind} {a b e:Int} (h:remI k a b=some e):¬ b=0∧a.tmod b=e:=by
  unfold remI at h;split at h
  · cases h
  · exact ⟨‹_›,Option.some.inj h⟩
attribute [simp] bne evalOp cellsOf binIV lenOfAV looks toIV noMut putCells fillCells fillRows aggIV leafIV cellsEq cellEqK rowsOf rowsAV okAt addAt upIds readIds opOpds topId bef Nat.testBit mutIds avBelow avB1 leafBelow objBelow
attribute [simp] rowI rowK rowB rowS rowL rowA
end Go.Proofs.YtjkljacdbljkpaaGreatDoor
namespace Go.Proofs.YtjkljacdbljkpaaGreatDoor
open Go.RowKit
set_option linter.unusedVariables false
set_option linter.unusedSimpArgs false
def rnLeaf (φ:Nat→Nat):AV→AV
  | .gslice i rows=>.gslice (φ i) rows
  | .ptr i r o=>.ptr (φ i) r o
  | .mslice i o l=>.mslice (φ i) o l
  | .map i=>.map (φ i)
  | .yld l i=>.yld l (φ i)
  | x=>x
def rnA1 (φ:Nat→Nat):AV→AV
  | .func f a c=>.func f (a.map (rnLeaf φ)) (c.map (rnLeaf φ))
  | .agg cs=>.agg (cs.map (rnLeaf φ))
  | .tuple cs=>.tuple (cs.map (rnLeaf φ))
  | x=>rnLeaf φ x
def rnAV (φ:Nat→Nat):AV→AV
  | .tuple cs=>.tuple (cs.map (rnA1 φ))
  | x=>rnA1 φ x
def rnRow (φ:Nat→Nat) (row:List AV):List AV:=row.map (rnAV φ)
def rnEnt (φ:Nat→Nat) (e:IV×AV):IV×AV:=(e.1,rnAV φ e.2)
def rnObj (φ:Nat→Nat):AObj→AObj
  | .rows sz rows=>.rows sz (rows.map (rnRow φ))
  | .tip sz l=>.tip sz l
  | .map es=>.map (es.map (rnEnt φ))
  | .dead=>.dead
  | .lp l R s pe=>.lp l R s pe
def rnH (φ:Nat→Nat):List (Nat×AObj)→List (Nat×AObj)
  | []=>[]
  | (k,o)::r=>(φ k,rnObj φ o)::rnH φ r
def rnL (φ:Nat→Nat) (l:List AV):List AV:=l.map (rnAV φ)
def ADet (C:Ctx) (f:Nat) (args:List AV) (heap:List (Nat×AObj)) (next:Nat) (r:AV) (heap':List (Nat×AObj)) (next':Nat):Prop:=
  ACall C f args heap next fun x h n=>x=r∧h=heap'∧n=next'
section
variable {C:Ctx} {g g':Gh} {h h' h0:Nat→Option AObj} {N N' N0:Nat→Prop} {w w':World} {φ:Nat→Nat}
structure Ren (φ:Nat→Nat) (N0:Nat→Prop) (g0:Gh) (h0:Nat→Option AObj) (g:Gh) (h:Nat→Option AObj):Prop where
  rho:∀ i,N0 i→g0.ρ i=g.ρ (φ i)
  zed:g0.Z=g.Z
theorem leaf_back {g0:Gh} {m:Nat} (hr:∀ i,i < m→g0.ρ i=g.ρ (φ i)) (hz:g0.Z=g.Z) (hh:∀ i o,h0 i=some o→h (φ i)=some (rnObj φ o)) {x:AV} {v:Value} (hb:leafBelow m x=true) (hv:RV C g h N w (rnLeaf φ x) v):RV C g0 h0 (· < m) w x v:=by
  cases x with
  | top=>exact .top v
  | undef=>simp only [rnLeaf] at hv;cases hv;exact .undef
  | imm y=>simp only [rnLeaf] at hv;cases hv with | imm _ _ hr'=>exact .imm _ _ (by rw [hz];exact hr')
  | nil=>simp only [rnLeaf] at hv;cases hv;exact .nil
  | nnil=>simp only [rnLeaf] at hv;cases hv with | nnil a cap=>exact .nnil a cap
  | yld l id=>
    simp only [rnLeaf] at hv
    have hid:id < m:=by simpa [leafBelow] using hb
    cases hv with
    | yld _ _ _ hp=>exact .yld l id hid fun R s pe h2=>by rw [hr id hid];exact hp R s pe (by rw [hh id _ h2];rfl)
  | gslice id rows=>
    simp only [rnLeaf] at hv
    have hid:id < m:=by simpa [leafBelow] using hb
    cases hv with
    | gslice _ _ _ hr' _ ht=>
      refine .gslice id rows v (by rw [hz];exact hr') hid fun sz len h1 => ?_
      obtain ⟨a1,a2,a3⟩:=ht sz len (by rw [hh id _ h1];rfl)
      refine ⟨a1,a2,fun e => ?_⟩
      rcases a3 e with ⟨b1,b2⟩ | ⟨b,cap,c,e',b1,b2,b3,b4⟩
      · exact .inl ⟨by rw [hr id hid];exact b1,b2⟩
      · exact .inr ⟨b,cap,c,e',by rw [hr id hid];exact b1,b2,b3,b4⟩
  | eptr cells=>
    simp only [rnLeaf] at hv
    cases hv with
    | eptr _ b off cv hz' hc hr'=>exact .eptr cells b off cv (by rw [hz];exact hz') hc (by rw [hz];exact hr')
  | ptr id row off=>
    simp only [rnLeaf] at hv
    have hid:id < m:=by simpa [leafBelow] using hb
    cases hv with
    | ptr _ _ _ _ _ h1 hp=>
      refine .ptr id row off v hid h1 fun sz rows h2 => ?_
      obtain ⟨b,b1,b2⟩:=hp sz _ (by rw [hh id _ h2];rfl)
      exact ⟨b,by rw [hr id hid];exact b1,b2⟩
  | mslice id off len=>
    simp only [rnLeaf] at hv
    have hid:id < m:=by simpa [leafBelow] using hb
    cases hv with
    | mslice _ _ _ _ _ h1 hp=>
      refine .mslice id off len v hid h1 fun sz rows h2 => ?_
      obtain ⟨b1,b2⟩:=hp sz _ (by rw [hh id _ h2];rfl)
      simp only [List.length_map] at b1
      refine ⟨b1,?_⟩
      rcases b2 with ⟨c1,c2,c3⟩ | ⟨b,cap,c,e,c1,c2,c3,c4,c5⟩
      · exact .inl ⟨by rw [hr id hid];exact c1,by simpa using c2,c3⟩
      · exact .inr ⟨b,cap,c,e,by rw [hr id hid];exact c1,c2,c3,c4,c5⟩
  | map id=>
    simp only [rnLeaf] at hv
    have hid:id < m:=by simpa [leafBelow] using hb
    cases hv with
    | map _ _ _ h1 hp=>
      refine .map id v hid h1 fun es h2 => ?_
      obtain ⟨b,b1,b2⟩:=hp _ (by rw [hh id _ h2];rfl)
      exact ⟨b,by rw [hr id hid];exact b1,b2⟩
  | func=>cases hb
  | agg=>cases hb
  | tuple=>cases hb
theorem av_back1 {g0:Gh} {m:Nat} (hr:∀ i,i < m→g0.ρ i=g.ρ (φ i)) (hz:g0.Z=g.Z) (hh:∀ i o,h0 i=some o→h (φ i)=some (rnObj φ o)) {x:AV} {v:Value} (hb:avB1 m x=true) (hv:RV C g h N w (rnA1 φ x) v):RV C g0 h0 (· < m) w x v:=by
  cases x with
  | func f a c=>
    simp only [avB1,Bool.and_eq_true,List.all_eq_true] at hb
    simp only [rnA1] at hv
    cases hv with
    | func _ _ _ vf vc hlf hlc hf hc=>
      refine .func f a c vf vc (by simpa using hlf) (by simpa using hlc) (fun i y u h1 h2 => ?_) (fun i y u h1 h2 => ?_)
      · exact leaf_back hr hz hh (hb.1 y (List.mem_of_getElem? h1)) (hf i _ u (by rw [List.getElem?_map,h1];rfl) h2)
      · exact leaf_back hr hz hh (hb.2 y (List.mem_of_getElem? h1)) (hc i _ u (by rw [List.getElem?_map,h1];rfl) h2)
  | agg cs=>
    simp only [avB1,List.all_eq_true] at hb
    simp only [rnA1] at hv
    cases hv with
    | agg _ vs hl h1 hr'=>
      exact .agg cs vs (by simpa using hl) h1 fun i y u e1 e2=>leaf_back hr hz hh (hb y (List.mem_of_getElem? e1)) (hr' i _ u (by rw [List.getElem?_map,e1];rfl) e2)
  | tuple cs=>
    simp only [avB1,List.all_eq_true] at hb
    simp only [rnA1] at hv
    cases hv with
    | tuple _ vs hl hr'=>
      exact .tuple cs vs (by simpa using hl) fun i y u e1 e2=>leaf_back hr hz hh (hb y (List.mem_of_getElem? e1)) (hr' i _ u (by rw [List.getElem?_map,e1];rfl) e2)
  | _=>exact leaf_back hr hz hh hb hv
theorem av_back {g0:Gh} {m:Nat} (hr:∀ i,i < m→g0.ρ i=g.ρ (φ i)) (hz:g0.Z=g.Z) (hh:∀ i o,h0 i=some o→h (φ i)=some (rnObj φ o)) {x:AV} {v:Value} (hb:avBelow m x=true) (hv:RV C g h N w (rnAV φ x) v):RV C g0 h0 (· < m) w x v:=by
  cases x with
  | tuple cs=>
    simp only [avBelow,List.all_eq_true] at hb
    simp only [rnAV] at hv
    cases hv with
    | tuple _ vs hl hr'=>
      exact .tuple cs vs (by simpa using hl) fun i y u e1 e2=>av_back1 hr hz hh (hb y (List.mem_of_getElem? e1)) (hr' i _ u (by rw [List.getElem?_map,e1];rfl) e2)
  | top=>exact av_back1 (x:=.top) hr hz hh hb hv
  | undef=>exact av_back1 (x:=.undef) hr hz hh hb hv
  | imm y=>exact av_back1 (x:=.imm y) hr hz hh hb hv
  | nil=>exact av_back1 (x:=.nil) hr hz hh hb hv
  | nnil=>exact av_back1 (x:=.nnil) hr hz hh hb hv
  | gslice a b=>exact av_back1 (x:=.gslice a b) hr hz hh hb hv
  | eptr a=>exact av_back1 (x:=.eptr a) hr hz hh hb hv
  | ptr a b c=>exact av_back1 (x:=.ptr a b c) hr hz hh hb hv
  | mslice a b c=>exact av_back1 (x:=.mslice a b c) hr hz hh hb hv
  | map a=>exact av_back1 (x:=.map a) hr hz hh hb hv
  | func a b c=>exact av_back1 (x:=.func a b c) hr hz hh hb hv
  | agg a=>exact av_back1 (x:=.agg a) hr hz hh hb hv
  | yld a b=>exact av_back1 (x:=.yld a b) hr hz hh hb hv
theorem leaf_fwd {g0:Gh} {m:Nat} (hr:∀ i,i < m→g.ρ (φ i)=g0.ρ i) (hz:g0.Z=g.Z) (hN:∀ i,i < m→N (φ i)) (hh:∀ i o,i < m→h (φ i)=some o→∃ o0,h0 i=some o0∧o=rnObj φ o0) {x:AV} {v:Value} (hb:leafBelow m x=true) (hv:RV C g0 h0 (· < m) w x v):RV C g h N w (rnLeaf φ x) v:=by
  cases hv with
  | top=>cases v<;>exact .top _
  | undef=>exact .undef
  | imm y _ hr'=>exact .imm _ _ (by rw [←hz];exact hr')
  | nil=>exact .nil
  | nnil a cap=>exact .nnil a cap
  | yld l id hid hp=>
    refine .yld l (φ id) (hN id hid) fun R s pe h2 => ?_
    obtain ⟨o0,e0,e1⟩:=hh id _ hid h2
    cases o0<;>simp only [rnObj] at e1<;>cases e1
    rw [hr id hid];exact hp _ _ _ e0
  | gslice id rows _ hr' hid ht=>
    refine .gslice (φ id) rows v (by rw [←hz];exact hr') (hN id hid) fun sz len h1 => ?_
    obtain ⟨o0,e0,e1⟩:=hh id _ hid h1
    cases o0<;>simp only [rnObj] at e1<;>cases e1
    obtain ⟨a1,a2,a3⟩:=ht _ _ e0
    refine ⟨a1,a2,fun e => ?_⟩
    rcases a3 e with ⟨b1,b2⟩ | ⟨b,cap,c,e',b1,b2,b3,b4⟩
    · exact .inl ⟨by rw [hr id hid];exact b1,b2⟩
    · exact .inr ⟨b,cap,c,e',by rw [hr id hid];exact b1,b2,b3,b4⟩
  | eptr cells b off cv hz' hc hr'=>exact .eptr cells b off cv (by rw [←hz];exact hz') hc (by rw [←hz];exact hr')
  | ptr id row off _ hid h1 hp=>
    refine .ptr (φ id) row off v (hN id hid) h1 fun sz rows h2 => ?_
    obtain ⟨o0,e0,e1⟩:=hh id _ hid h2
    cases o0<;>simp only [rnObj] at e1<;>cases e1
    obtain ⟨b,b1,b2⟩:=hp _ _ e0
    exact ⟨b,by rw [hr id hid];exact b1,b2⟩
  | mslice id off len _ hid h1 hp=>
    refine .mslice (φ id) off len v (hN id hid) h1 fun sz rows h2 => ?_
    obtain ⟨o0,e0,e1⟩:=hh id _ hid h2
    cases o0<;>simp only [rnObj] at e1<;>cases e1
    obtain ⟨b1,b2⟩:=hp _ _ e0
    refine ⟨by simpa using b1,?_⟩
    rcases b2 with ⟨c1,c2,c3⟩ | ⟨b,cap,c,e,c1,c2,c3,c4,c5⟩
    · exact .inl ⟨by rw [hr id hid];exact c1,by rw [c2];rfl,c3⟩
    · exact .inr ⟨b,cap,c,e,by rw [hr id hid];exact c1,c2,c3,c4,c5⟩
  | map id _ hid h1 hp=>
    refine .map (φ id) v (hN id hid) h1 fun es h2 => ?_
    obtain ⟨o0,e0,e1⟩:=hh id _ hid h2
    cases o0<;>simp only [rnObj] at e1<;>cases e1
    obtain ⟨b,b1,b2⟩:=hp _ e0
    exact ⟨b,by rw [hr id hid];exact b1,b2⟩
  | func=>cases hb
  | agg=>cases hb
  | tuple=>cases hb
theorem av_fwd1 {g0:Gh} {m:Nat} (hr:∀ i,i < m→g.ρ (φ i)=g0.ρ i) (hz:g0.Z=g.Z) (hN:∀ i,i < m→N (φ i)) (hh:∀ i o,i < m→h (φ i)=some o→∃ o0,h0 i=some o0∧o=rnObj φ o0) {x:AV} {v:Value} (hb:avB1 m x=true) (hv:RV C g0 h0 (· < m) w x v):RV C g h N w (rnA1 φ x) v:=by
  cases x with
  | func f a c=>
    simp only [avB1,Bool.and_eq_true,List.all_eq_true] at hb
    simp only [rnA1]
    cases hv with
    | func _ _ _ vf vc hlf hlc hf hc=>
      refine .func f _ _ vf vc (by simpa using hlf) (by simpa using hlc) (fun i y u h1 h2 => ?_) (fun i y u h1 h2 => ?_)
      · rw [List.getElem?_map,Option.map_eq_some_iff] at h1
        obtain ⟨z,h1,rfl⟩:=h1
        exact leaf_fwd hr hz hN hh (hb.1 z (List.mem_of_getElem? h1)) (hf i z u h1 h2)
      · rw [List.getElem?_map,Option.map_eq_some_iff] at h1
        obtain ⟨z,h1,rfl⟩:=h1
        exact leaf_fwd hr hz hN hh (hb.2 z (List.mem_of_getElem? h1)) (hc i z u h1 h2)
  | agg cs=>
    simp only [avB1,List.all_eq_true] at hb
    simp only [rnA1]
    cases hv with
    | agg _ vs hl h1 hr'=>
      refine .agg _ vs (by simpa using hl) h1 fun i y u e1 e2 => ?_
      rw [List.getElem?_map,Option.map_eq_some_iff] at e1
      obtain ⟨z,e1,rfl⟩:=e1
      exact leaf_fwd hr hz hN hh (hb z (List.mem_of_getElem? e1)) (hr' i z u e1 e2)
  | tuple cs=>
    simp only [avB1,List.all_eq_true] at hb
    simp only [rnA1]
    cases hv with
    | tuple _ vs hl hr'=>
      refine .tuple _ vs (by simpa using hl) fun i y u e1 e2 => ?_
      rw [List.getElem?_map,Option.map_eq_some_iff] at e1
      obtain ⟨z,e1,rfl⟩:=e1
      exact leaf_fwd hr hz hN hh (hb z (List.mem_of_getElem? e1)) (hr' i z u e1 e2)
  | top=>exact leaf_fwd (x:=.top) hr hz hN hh hb hv
  | undef=>exact leaf_fwd (x:=.undef) hr hz hN hh hb hv
  | imm y=>exact leaf_fwd (x:=.imm y) hr hz hN hh hb hv
  | nil=>exact leaf_fwd (x:=.nil) hr hz hN hh hb hv
  | nnil=>exact leaf_fwd (x:=.nnil) hr hz hN hh hb hv
  | gslice a b=>exact leaf_fwd (x:=.gslice a b) hr hz hN hh hb hv
  | eptr a=>exact leaf_fwd (x:=.eptr a) hr hz hN hh hb hv
  | ptr a b c=>exact leaf_fwd (x:=.ptr a b c) hr hz hN hh hb hv
  | mslice a b c=>exact leaf_fwd (x:=.mslice a b c) hr hz hN hh hb hv
  | map a=>exact leaf_fwd (x:=.map a) hr hz hN hh hb hv
  | yld a b=>exact leaf_fwd (x:=.yld a b) hr hz hN hh hb hv
theorem av_fwd {g0:Gh} {m:Nat} (hr:∀ i,i < m→g.ρ (φ i)=g0.ρ i) (hz:g0.Z=g.Z) (hN:∀ i,i < m→N (φ i)) (hh:∀ i o,i < m→h (φ i)=some o→∃ o0,h0 i=some o0∧o=rnObj φ o0) {x:AV} {v:Value} (hb:avBelow m x=true) (hv:RV C g0 h0 (· < m) w x v):RV C g h N w (rnAV φ x) v:=by
  cases x with
  | tuple cs=>
    simp only [avBelow,List.all_eq_true] at hb
    simp only [rnAV]
    cases hv with
    | tuple _ vs hl hr'=>
      refine .tuple _ vs (by simpa using hl) fun i y u e1 e2 => ?_
      rw [List.getElem?_map,Option.map_eq_some_iff] at e1
      obtain ⟨z,e1,rfl⟩:=e1
      exact av_fwd1 hr hz hN hh (hb z (List.mem_of_getElem? e1)) (hr' i z u e1 e2)
  | top=>exact av_fwd1 (x:=.top) hr hz hN hh hb hv
  | undef=>exact av_fwd1 (x:=.undef) hr hz hN hh hb hv
  | imm y=>exact av_fwd1 (x:=.imm y) hr hz hN hh hb hv
  | nil=>exact av_fwd1 (x:=.nil) hr hz hN hh hb hv
  | nnil=>exact av_fwd1 (x:=.nnil) hr hz hN hh hb hv
  | gslice a b=>exact av_fwd1 (x:=.gslice a b) hr hz hN hh hb hv
  | eptr a=>exact av_fwd1 (x:=.eptr a) hr hz hN hh hb hv
  | ptr a b c=>exact av_fwd1 (x:=.ptr a b c) hr hz hN hh hb hv
  | mslice a b c=>exact av_fwd1 (x:=.mslice a b c) hr hz hN hh hb hv
  | map a=>exact av_fwd1 (x:=.map a) hr hz hN hh hb hv
  | func a b c=>exact av_fwd1 (x:=.func a b c) hr hz hN hh hb hv
  | agg a=>exact av_fwd1 (x:=.agg a) hr hz hN hh hb hv
  | yld a b=>exact av_fwd1 (x:=.yld a b) hr hz hN hh hb hv
theorem obj_back {g0:Gh} {m b:Nat} (hr:∀ i,i < m→g0.ρ i=g.ρ (φ i)) (hz:g0.Z=g.Z) (hh:∀ i o,h0 i=some o→h (φ i)=some (rnObj φ o)) {o:AObj} (hb:objBelow m o) (hv:RObj C g h N w b (rnObj φ o)):RObj C g0 h0 (· < m) w b o:=by
  cases o with
  | rows sz rows=>
    simp only [rnObj,RObj] at hv ⊢
    obtain ⟨a1,c,e,a2,a3,a4⟩:=hv
    refine ⟨by rw [hz];exact a1,c,e,a2,fun i row h1 => ?_,fun i row j x h1 h2 => ?_⟩
    · have:=a3 i (rnRow φ row) (by rw [List.getElem?_map,h1];rfl);simpa [rnRow] using this
    · obtain ⟨cv,b1,b2,b3⟩:=a4 i (rnRow φ row) j (rnAV φ x) (by rw [List.getElem?_map,h1];rfl) (by simp only [rnRow];rw [List.getElem?_map,h2];rfl)
      exact ⟨cv,b1,b2,av_back hr hz hh (hb row (List.mem_of_getElem? h1) x (List.mem_of_getElem? h2)) b3⟩
  | tip sz l=>simp only [rnObj,RObj] at hv ⊢; rw [hz];exact hv
  | map es=>
    simp only [rnObj,RObj] at hv ⊢
    obtain ⟨a1,ces,clock,a2,a3,a4⟩:=hv
    refine ⟨by rw [hz];exact a1,ces,clock,a2,by simpa using a3,fun i k x h1 => ?_⟩
    obtain ⟨e,b1,b2,b3⟩:=a4 i k (rnAV φ x) (by rw [List.getElem?_map,h1];rfl)
    exact ⟨e,b1,b2,av_back hr hz hh (hb _ (List.mem_of_getElem? h1)) b3⟩
  | dead=>trivial
  | lp l R s pe=>simp only [rnObj,RObj] at hv ⊢; rw [hz];exact hv
theorem obj_fwd {g0:Gh} {m b:Nat} (hr:∀ i,i < m→g.ρ (φ i)=g0.ρ i) (hz:g0.Z=g.Z) (hN:∀ i,i < m→N (φ i)) (hh:∀ i o,i < m→h (φ i)=some o→∃ o0,h0 i=some o0∧o=rnObj φ o0) {o:AObj} (hb:objBelow m o) (hv:RObj C g0 h0 (· < m) w b o):RObj C g h N w b (rnObj φ o):=by
  cases o with
  | rows sz rows=>
    simp only [rnObj,RObj] at hv ⊢
    obtain ⟨a1,c,e,a2,a3,a4⟩:=hv
    refine ⟨by rw [←hz];exact a1,c,e,a2,fun i row h1 => ?_,fun i row j x h1 h2 => ?_⟩
    · rw [List.getElem?_map,Option.map_eq_some_iff] at h1
      obtain ⟨z,h1,rfl⟩:=h1
      simpa [rnRow] using a3 i z h1
    · rw [List.getElem?_map,Option.map_eq_some_iff] at h1
      obtain ⟨z,h1,rfl⟩:=h1
      simp only [rnRow] at h2
      rw [List.getElem?_map,Option.map_eq_some_iff] at h2
      obtain ⟨y,h2,rfl⟩:=h2
      obtain ⟨cv,b1,b2,b3⟩:=a4 i z j y h1 h2
      exact ⟨cv,b1,b2,av_fwd hr hz hN hh (hb z (List.mem_of_getElem? h1) y (List.mem_of_getElem? h2)) b3⟩
  | tip sz l=>simp only [rnObj,RObj] at hv ⊢; rw [←hz];exact hv
  | map es=>
    simp only [rnObj,RObj] at hv ⊢
    obtain ⟨a1,ces,clock,a2,a3,a4⟩:=hv
    refine ⟨by rw [←hz];exact a1,ces,clock,a2,by simpa using a3,fun i k x h1 => ?_⟩
    rw [List.getElem?_map,Option.map_eq_some_iff] at h1
    obtain ⟨z,h1,h2⟩:=h1
    simp only [rnEnt] at h2
    cases h2
    obtain ⟨e,b1,b2,b3⟩:=a4 i z.1 z.2 h1
    exact ⟨e,b1,b2,av_fwd hr hz hN hh (hb _ (List.mem_of_getElem? h1)) b3⟩
  | dead=>trivial
  | lp l R s pe=>simp only [rnObj,RObj] at hv ⊢; rw [←hz];exact hv
theorem hup_rnH {n:Nat} (inj:∀ i j,i < n→j < n→φ i=φ j→i=j):∀ {l:List (Nat×AObj)},(∀ p∈l,p.1 < n)→∀ i,i < n→hup (rnH φ l) h (φ i)=match alGet l i with
    | some o=>some (rnObj φ o)
    | none=>h (φ i)
  | [],_,i,hi=>rfl
  | (k,o)::r,hl,i,hi=>by
    simp only [rnH,hup,alGet]
    by_cases e:k=i
    · subst e;rw [if_pos rfl,if_pos rfl]
    · rw [if_neg e,if_neg (fun h=>e (inj k i (hl (k,o) (by simp)) hi h))]
      exact hup_rnH inj (fun p hp=>hl p (by simp [hp])) i hi
theorem hup_rnH_off {n:Nat}:∀ {l:List (Nat×AObj)},(∀ p∈l,p.1 < n)→∀ j,(∀ i,i < n→φ i≠j)→hup (rnH φ l) h j=h j
  | [],_,j,hj=>rfl
  | (k,o)::r,hl,j,hj=>by
    simp only [rnH,hup]
    rw [if_neg (hj k (hl (k,o) (by simp)))]
    exact hup_rnH_off (fun p hp=>hl p (by simp [hp])) j hj
open Classical in
noncomputable def inv (φ:Nat→Nat) (n j:Nat):Option Nat:=if h:∃ i,i < n∧φ i=j then some h.choose else none
theorem inv_of {n i:Nat} (inj:∀ i j,i < n→j < n→φ i=φ j→i=j) (hi:i < n):inv φ n (φ i)=some i:=by
  unfold inv
  have h:∃ k,k < n∧φ k=φ i:=⟨i,hi,rfl⟩
  rw [dif_pos h]
  have:=h.choose_spec
  rw [inj _ _ this.1 hi this.2]
theorem inv_some {n i j:Nat} (h:inv φ n j=some i):i < n∧φ i=j:=by
  unfold inv at h
  split at h
  · rename_i hh;cases h;exact hh.choose_spec
  · cases h
theorem inv_none {n j:Nat} (h:inv φ n j=none):∀ i,i < n→φ i≠j:=by
  unfold inv at h
  split at h
  · cases h
  · rename_i hh;exact fun i hi e=>hh ⟨i,hi,e⟩
theorem frame {f m n1:Nat} {args0:List AV} {heap0 heap1:List (Nat×AObj)} {r0:AV} (hc:ADet C f args0 heap0 m r0 heap1 n1)
    (hk0:∀ p∈heap0,p.1 < m∧objBelow m p.2) (hka:∀ x∈args0,avBelow m x=true) (hk1:∀ p∈heap1,p.1 < n1∧objBelow n1 p.2) (hr0:avBelow n1 r0=true)
    (hall:∀ i,i < m→(alGet heap1 i).isSome=true) (inj:∀ i j,i < n1→j < n1→φ i=φ j→i=j)
    (hB:∀ i o,alGet heap0 i=some o→h (φ i)=some (rnObj φ o)) (hN:∀ i,i < m→N (φ i)) (hfr:∀ i,m≤i→i < n1→¬ N (φ i)) (hN1:∀ j,N j→N' j) (hN2:∀ i,i < n1→N' (φ i))
    {vs:List Value} (R:RH C g h N w) (hv:RVs C g h N w (rnL φ args0) vs) (hm:m≤n1) :
    Calls C.P (C.fnum f) vs.toArray w fun e w'=>∃ v g',e=.returned v∧Evo g h N w g' (hup (rnH φ heap1) h) N' w'∧RH C g' (hup (rnH φ heap1) h) N' w'∧RV C g' (hup (rnH φ heap1) h) N' w' (rnAV φ r0) v:=by
  let g0:Gh:=⟨fun i=>if i < m then g.ρ (φ i) else none,g.Z⟩
  have hrho:∀ i,i < m→g0.ρ i=g.ρ (φ i):=fun i hi=>if_pos hi
  have hrho':∀ i b,g0.ρ i=some b→i < m∧g.ρ (φ i)=some b:=fun i b hb=>by
    simp only [g0] at hb
    split at hb
    · exact ⟨‹_›,hb⟩
    · cases hb
  have hh0:∀ i o,alGet heap0 i=some o→i < m∧objBelow m o:=fun i o ho=>hk0 (i,o) (alGet_mem ho)
  have R0:RH C g0 (alGet heap0) (· < m) w:={
    inj:=fun i j b h1 h2=>by
      obtain ⟨a1,a2⟩:=hrho' i b h1
      obtain ⟨b1,b2⟩:=hrho' j b h2
      exact inj i j (by omega) (by omega) (R.inj _ _ b a2 b2)
    lt:=fun i b h1=>by
      obtain ⟨a1,a2⟩:=hrho' i b h1
      exact ⟨(R.lt _ b a2).1,a1⟩
    key:=fun i o ho=>(hh0 i o ho).1
    obj:=fun i b o h1 ho=>by
      obtain ⟨a1,a2⟩:=hrho' i b h1
      exact obj_back hrho rfl hB (hh0 i o ho).2 (R.obj _ b _ a2 (hB i o ho))
    tip0:=fun i sz len ho h1=>by
      have hi:=(hh0 i _ ho).1
      exact R.tip0 (φ i) sz len (hB i _ ho) (by rw [←hrho i hi];exact h1)
    zlt:=R.zlt
    fix:=⟨R.fix.1,R.fix.2.1,fun b hb ⟨i,hi⟩=>R.fix.2.2 b hb ⟨_,(hrho' i b hi).2⟩⟩}
  have hv0:RVs C g0 (alGet heap0) (· < m) w args0 vs:=⟨by have:=hv.1;simpa [rnL] using this,fun j x u h1 h2=>
    av_back hrho rfl hB (hka x (List.mem_of_getElem? h1)) (hv.2 j (rnAV φ x) u (by simp only [rnL];rw [List.getElem?_map,h1];rfl) h2)⟩
  refine (hc.2 g0 w vs R0 hv0).mono ?_
  rintro e w' ⟨v,r,hp1,nx,g1,rfl,⟨e1,e2,e3⟩,E0,R1,hr1⟩
  rw [e2,e3] at E0 R1
  rw [e1,e2,e3] at hr1
  clear e1 e2 e3
  have hl1:∀ p∈heap1,p.1 < n1:=fun p hp=>(hk1 p hp).1
  have hh1:∀ i o,alGet heap1 i=some o→i < n1∧objBelow n1 o:=fun i o ho=>hk1 (i,o) (alGet_mem ho)
  let g':Gh:=⟨fun j=>match inv φ n1 j with | some i=>g1.ρ i | none=>g.ρ j,g1.Z⟩
  have hg1:∀ i,i < n1→g'.ρ (φ i)=g1.ρ i:=fun i hi=>by simp only [g',inv_of inj hi]
  have hgo:∀ j,inv φ n1 j=none→g'.ρ j=g.ρ j:=fun j hj=>by simp only [g',hj]
  have hin:∀ i,i < n1→hup (rnH φ heap1) h (φ i)=match alGet heap1 i with | some o=>some (rnObj φ o) | none=>h (φ i):=hup_rnH inj hl1
  have hoff:∀ j,inv φ n1 j=none→hup (rnH φ heap1) h j=h j:=fun j hj=>hup_rnH_off hl1 j (inv_none hj)
  have hfwd:∀ i o,i < n1→hup (rnH φ heap1) h (φ i)=some o→∃ o0,alGet heap1 i=some o0∧o=rnObj φ o0:=fun i o hi ho=>by
    rw [hin i hi] at ho
    cases ha:alGet heap1 i with
    | some o0=>rw [ha] at ho;simp only [Option.some.injEq] at ho;exact ⟨o0,rfl,ho.symm⟩
    | none=>
      rw [ha] at ho
      simp only at ho
      rcases Nat.lt_or_ge i m with h1 | h1
      · have:=hall i h1;rw [ha] at this;cases this
      · exact absurd (R.key _ _ ho) (hfr i h1 hi)
  have hNi:∀ j,N j→∀ i,inv φ n1 j=some i→i < m:=fun j hj i hi=>by
    obtain ⟨h1,h2⟩:=inv_some hi
    rcases Nat.lt_or_ge i m with h3 | h3
    · exact h3
    · exact absurd (by rw [h2];exact hj) (hfr i h3 h1)
  have E:Evo g h N w g' (hup (rnH φ heap1) h) N' w':={
    os:=E0.os
    tape:=E0.tape
    output:=E0.output
    size:=E0.size
    old:=fun b hb ho=>E0.old b hb (fun ⟨i,hi⟩=>ho ⟨φ i,(hrho' i b hi).2⟩)
    own:=fun b ⟨j,hj⟩=>by
      cases hi:inv φ n1 j with
      | some i=>
        obtain ⟨h1,rfl⟩:=inv_some hi
        rw [hg1 i h1] at hj
        rcases E0.own b ⟨i,hj⟩ with ⟨k,hk⟩ | hk
        · exact .inl ⟨φ k,(hrho' k b hk).2⟩
        · exact .inr hk
      | none=>rw [hgo j hi] at hj;exact .inl ⟨j,hj⟩
    zmono:=E0.zmono
    cell:=E0.cell
    shape:=E0.shape
    next:=hN1
    rho:=fun j b hb o ho hnd hj=>by
      cases hi:inv φ n1 j with
      | some i=>
        have him:=hNi j hj i hi
        obtain ⟨h1,rfl⟩:=inv_some hi
        obtain ⟨o0,e0,rfl⟩:=hfwd i o h1 ho
        rw [hg1 i h1]
        rcases E0.rho i b (by rw [hrho i him];exact hb) o0 e0 (fun e=>hnd (by rw [e];rfl)) him with h3 | ⟨sz,l,sz',l',h3,h4,h5⟩
        · exact .inl h3
        · subst h4;exact .inr ⟨sz,l,sz',l',by rw [hB i _ h3];rfl,rfl,h5⟩
      | none=>rw [hgo j hi];exact .inl hb
    rho0:=fun j hb hj o ho hnd=>by
      cases hi:inv φ n1 j with
      | some i=>
        have him:=hNi j hj i hi
        obtain ⟨h1,rfl⟩:=inv_some hi
        obtain ⟨o0,e0,rfl⟩:=hfwd i o h1 ho
        rw [hg1 i h1]
        rcases E0.rho0 i (by rw [hrho i him];exact hb) him o0 e0 (fun e=>hnd (by rw [e];rfl)) with h3 | ⟨sz,l,sz',l',h3,h4,h5⟩
        · exact .inl h3
        · subst h4;exact .inr ⟨sz,l,sz',l',by rw [hB i _ h3];rfl,rfl,h5⟩
      | none=>rw [hgo j hi];exact .inl hb
    rows:=fun j hj sz rows ho=>by
      cases hi:inv φ n1 j with
      | some i=>
        have him:=hNi j hj i hi
        obtain ⟨h1,rfl⟩:=inv_some hi
        obtain ⟨o0,e0,e1⟩:=hfwd i _ h1 ho
        cases o0<;>simp only [rnObj] at e1<;>cases e1
        obtain ⟨r2,h3,h4⟩:=E0.rows i him _ _ e0
        exact ⟨_,by rw [hB i _ h3];rfl,by simpa using h4⟩
      | none=>rw [hoff j hi] at ho;exact ⟨rows,ho,rfl⟩
    tips:=fun j hj sz len ho=>by
      cases hi:inv φ n1 j with
      | some i=>
        have him:=hNi j hj i hi
        obtain ⟨h1,rfl⟩:=inv_some hi
        obtain ⟨o0,e0,e1⟩:=hfwd i _ h1 ho
        cases o0<;>simp only [rnObj] at e1<;>cases e1
        obtain ⟨l2,h3,h4⟩:=E0.tips i him _ _ e0
        exact ⟨l2,by rw [hB i _ h3];rfl,h4⟩
      | none=>rw [hoff j hi] at ho;exact ⟨len,ho,Nat.le_refl _⟩
    maps:=fun j hj es ho=>by
      cases hi:inv φ n1 j with
      | some i=>
        have him:=hNi j hj i hi
        obtain ⟨h1,rfl⟩:=inv_some hi
        obtain ⟨o0,e0,e1⟩:=hfwd i _ h1 ho
        cases o0<;>simp only [rnObj] at e1<;>cases e1
        obtain ⟨e2,h3⟩:=E0.maps i him _ e0
        exact ⟨_,by rw [hB i _ h3];rfl⟩
      | none=>rw [hoff j hi] at ho;exact ⟨es,ho⟩
    lps:=fun j hj ll RR s pe ho=>by
      cases hi:inv φ n1 j with
      | some i=>
        have him:=hNi j hj i hi
        obtain ⟨h1,rfl⟩:=inv_some hi
        obtain ⟨o0,e0,e1⟩:=hfwd i _ h1 ho
        cases o0<;>simp only [rnObj] at e1<;>cases e1
        obtain ⟨e2,e3,h3⟩:=E0.lps i him _ _ _ _ e0
        exact ⟨_,_,by rw [hB i _ h3];rfl⟩
      | none=>rw [hoff j hi] at ho;exact ⟨s,pe,ho⟩}
  have hR:RH C g' (hup (rnH φ heap1) h) N' w':={
    inj:=fun i j b h1 h2=>by
      cases hi:inv φ n1 i with
      | some i0=>
        obtain ⟨a1,rfl⟩:=inv_some hi
        rw [hg1 i0 a1] at h1
        cases hj:inv φ n1 j with
        | some j0=>
          obtain ⟨b1,rfl⟩:=inv_some hj
          rw [hg1 j0 b1] at h2
          rw [R1.inj i0 j0 b h1 h2]
        | none=>
          rw [hgo j hj] at h2
          rcases E0.own b ⟨i0,h1⟩ with ⟨k,hk⟩ | hk
          · obtain ⟨k1,k2⟩:=hrho' k b hk
            have:=R.inj _ _ b k2 h2
            exact absurd this (inv_none hj k (by omega))
          · have:=(R.lt j b h2).1;omega
      | none=>
        rw [hgo i hi] at h1
        cases hj:inv φ n1 j with
        | some j0=>
          obtain ⟨b1,rfl⟩:=inv_some hj
          rw [hg1 j0 b1] at h2
          rcases E0.own b ⟨j0,h2⟩ with ⟨k,hk⟩ | hk
          · obtain ⟨k1,k2⟩:=hrho' k b hk
            have:=R.inj _ _ b k2 h1
            exact absurd this (inv_none hi k (by omega))
          · have:=(R.lt i b h1).1;omega
        | none=>
          rw [hgo j hj] at h2
          exact R.inj i j b h1 h2
    lt:=fun i b h1=>by
      cases hi:inv φ n1 i with
      | some i0=>
        obtain ⟨a1,rfl⟩:=inv_some hi
        rw [hg1 i0 a1] at h1
        exact ⟨(R1.lt i0 b h1).1,hN2 i0 a1⟩
      | none=>
        rw [hgo i hi] at h1
        obtain ⟨a1,a2⟩:=R.lt i b h1
        exact ⟨Nat.lt_of_lt_of_le a1 E0.size,hN1 i a2⟩
    key:=fun i o ho=>by
      cases hi:inv φ n1 i with
      | some i0=>obtain ⟨a1,rfl⟩:=inv_some hi;exact hN2 i0 a1
      | none=>rw [hoff i hi] at ho;exact hN1 i (R.key i o ho)
    obj:=fun i b o h1 ho=>by
      cases hi:inv φ n1 i with
      | some i0=>
        obtain ⟨a1,rfl⟩:=inv_some hi
        rw [hg1 i0 a1] at h1
        obtain ⟨o0,e0,rfl⟩:=hfwd i0 o a1 ho
        exact obj_fwd (fun i hi=>hg1 i hi) rfl hN2 hfwd (hh1 i0 o0 e0).2 (R1.obj i0 b o0 h1 e0)
      | none=>
        rw [hgo i hi] at h1
        rw [hoff i hi] at ho
        have hro:=R.obj i b o h1 ho
        have hno:¬ Owned g0 b:=fun ⟨k,hk⟩=>by
          obtain ⟨k1,k2⟩:=hrho' k b hk
          exact inv_none hi k (by omega) (R.inj _ _ b k2 h1)
        obtain ⟨q1,q2⟩:=E0.old b (R.lt i b h1).1 hno
        have q2':g'.Z b=g.Z b:=q2
        cases o with
        | rows sz rows=>
          simp only [RObj] at hro ⊢
          obtain ⟨a1,c,e,a2,a3,a4⟩:=hro
          refine ⟨by rw [q2'];exact a1,c,e,by rw [q1];exact a2,a3,fun i row j x u1 u2 => ?_⟩
          obtain ⟨cv,b1,b2,b3⟩:=a4 i row j x u1 u2
          exact ⟨cv,b1,b2,b3.mono E⟩
        | tip sz l=>
          simp only [RObj] at hro ⊢
          rw [q1,q2']
          exact hro
        | map es=>
          simp only [RObj] at hro ⊢
          obtain ⟨a1,ces,clock,a2,a3,a4⟩:=hro
          refine ⟨by rw [q2'];exact a1,ces,clock,by rw [q1];exact a2,a3,fun i k x u1 => ?_⟩
          obtain ⟨e,b1,b2,b3⟩:=a4 i k x u1
          exact ⟨e,b1,b2,b3.mono E⟩
        | dead=>trivial
        | lp l R s pe=>
          simp only [RObj] at hro ⊢
          rw [q1,q2']
          exact hro
    tip0:=fun i sz len ho h1=>by
      cases hi:inv φ n1 i with
      | some i0=>
        obtain ⟨a1,rfl⟩:=inv_some hi
        rw [hg1 i0 a1] at h1
        obtain ⟨o0,e0,e1⟩:=hfwd i0 _ a1 ho
        cases o0<;>simp only [rnObj] at e1<;>cases e1
        exact R1.tip0 i0 _ _ e0 h1
      | none=>
        rw [hgo i hi] at h1
        rw [hoff i hi] at ho
        exact R.tip0 i sz len ho h1
    zlt:=R1.zlt
    fix:=R.fix.evo E}
  exact ⟨v,g',rfl,E,hR,av_fwd (fun i hi=>hg1 i hi) rfl hN2 hfwd hr0 hr1⟩
end
end Go.Proofs.YtjkljacdbljkpaaGreatDoor
namespace Go.Proofs.YtjkljacdbljkpaaGreatDoor
open Go.RowKit
set_option linter.unusedVariables false
set_option linter.unusedSimpArgs false
inductive AllP:List Prop→Prop where
  | nil:AllP []
  | cons {p:Prop} {ps:List Prop} (h:p) (t:AllP ps):AllP (p::ps)
theorem AllP.app:∀ {ps qs:List Prop},AllP (ps++qs)→AllP ps∧AllP qs
  | [],qs,h=>⟨.nil,h⟩
  | p::ps,qs,h=>by
    cases h with
    | cons h t=>exact ⟨.cons h (AllP.app t).1,(AllP.app t).2⟩
theorem AllP.one {p:Prop} (h:AllP [p]):p:=by cases h;assumption
structure DOk (C:Ctx) (f:Nat) (args0:List AV) (heap0:List (Nat×AObj)) (m:Nat) (r0:AV) (heap1:List (Nat×AObj)) (d:Nat):Prop where
  det:ADet C f args0 heap0 m r0 heap1 (m+d)
  k0:∀ p∈heap0,p.1 < m∧objBelow m p.2
  ka:∀ x∈args0,avBelow m x=true
  k1:∀ p∈heap1,p.1 < m+d∧objBelow (m+d) p.2
  kr:avBelow (m+d) r0=true
  all:∀ i,i < m→(alGet heap1 i).isSome=true
  all0:∀ i,i < m→(alGet heap0 i).isSome=true
def phi (l:List Nat) (m next:Nat):Nat→Nat:=fun i=>if i < m then l.getD i 0 else next+(i - m)
def nodupB:List Nat→Bool
  | []=>true
  | x::r => !(r.contains x)&&nodupB r
inductive Thin (h0:List (Nat×AObj)):List (Nat×AObj)→List (Nat×AObj)→Prop where
  | nil:Thin h0 [] []
  | keep {k:Nat} {o:AObj} {r s:List (Nat×AObj)} (t:Thin h0 r s):Thin h0 ((k,o)::r) ((k,o)::s)
  | drop {k:Nat} {o:AObj} {r s:List (Nat×AObj)} (hk:alGet h0 k=some o) (hs:alGet s k=none) (t:Thin h0 r s):Thin h0 ((k,o)::r) s
theorem Thin.get {h0 h1 h2:List (Nat×AObj)} (t:Thin h0 h1 h2):∀ i,alGet h1 i=alGet h2 i∨(alGet h2 i=none∧alGet h1 i=alGet h0 i):=by
  induction t with
  | nil=>exact fun i=>.inl rfl
  | keep t ih=>
    intro i
    simp only [alGet]
    split
    · exact .inl rfl
    · exact ih i
  | drop hk hs t ih=>
    intro i
    simp only [alGet]
    split
    · rename_i e;subst e;exact .inr ⟨hs,hk.symm⟩
    · exact ih i
theorem Thin.sub {h0 h1 h2:List (Nat×AObj)} (t:Thin h0 h1 h2):∀ p∈h2,p∈h1:=by
  induction t with
  | nil=>exact fun p hp=>hp
  | keep t ih=>
    intro p hp
    rcases List.mem_cons.1 hp with e | e
    · rw [e];simp
    · exact List.mem_cons_of_mem _ (ih p e)
  | drop hk hs t ih=>exact fun p hp=>List.mem_cons_of_mem _ (ih p hp)
theorem hup_thin {φ:Nat→Nat} {n:Nat} {h:Nat→Option AObj} {h0 h1 h2:List (Nat×AObj)} (inj:∀ i j,i < n→j < n→φ i=φ j→i=j) (hl:∀ p∈h1,p.1 < n) (hB:∀ i o,alGet h0 i=some o→h (φ i)=some (rnObj φ o)) (t:Thin h0 h1 h2):hup (rnH φ h1) h=hup (rnH φ h2) h:=by
  funext j
  cases hj:inv φ n j with
  | some i=>
    obtain ⟨hi,rfl⟩:=inv_some hj
    rw [hup_rnH inj hl i hi,hup_rnH inj (fun p hp=>hl p (t.sub p hp)) i hi]
    rcases t.get i with e | ⟨e1,e2⟩
    · rw [e]
    · rw [e1,e2]
      cases ho:alGet h0 i with
      | none=>rfl
      | some o=>simp only;rw [hB i o ho]
  | none=>rw [hup_rnH_off hl j (inv_none hj),hup_rnH_off (fun p hp=>hl p (t.sub p hp)) j (inv_none hj)]
def CallP (C:Ctx) (f:Nat) (args:List AV) (l:List Nat) (m next:Nat) (objs:List (Nat×AObj)) (r:AV) (ups:List (Nat×AObj)) (d:Nat):Prop:=
  ∃ args0 heap0 r0 heap1 heap2,DOk C f args0 heap0 m r0 heap1 d∧Thin heap0 heap1 heap2∧rnL (phi l m next) args0=args∧rnH (phi l m next) heap0=objs∧rnAV (phi l m next) r0=r∧rnH (phi l m next) heap2=ups
theorem call_side {C:Ctx} {f m d:Nat} {args0:List AV} {heap0 heap1 heap2 objs ups:List (Nat×AObj)} {r0:AV} (hd:DOk C f args0 heap0 m r0 heap1 d) (l:List Nat) (next:Nat) (ht:Thin heap0 heap1 heap2) (ho:rnH (phi l m next) heap0=objs) (hu:rnH (phi l m next) heap2=ups) :
    CallP C f (rnL (phi l m next) args0) l m next objs (rnAV (phi l m next) r0) ups d:=⟨args0,heap0,r0,heap1,heap2,hd,ht,rfl,ho,rfl,hu⟩
def objsX (heap:List (Nat×AObj)):List Nat→Option (List (Nat×AObj))
  | []=>some []
  | i::l=>match alGet heap i with
    | none=>none
    | some o=>match objsX heap l with
      | some r=>some ((i,o)::r)
      | none=>none
theorem objsX_mem {heap:List (Nat×AObj)}:∀ {l:List Nat} {objs:List (Nat×AObj)},objsX heap l=some objs→∀ p∈objs,alGet heap p.1=some p.2
  | [],objs,h=>by cases h;intro p hp;cases hp
  | i::l,objs,h=>by
    simp only [objsX] at h
    split at h
    · cases h
    · rename_i o ho
      split at h
      · rename_i r hr
        cases h
        intro p hp
        rcases List.mem_cons.1 hp with rfl | hp
        · exact ho
        · exact objsX_mem hr p hp
      · cases h
theorem rnH_mem {φ:Nat→Nat}:∀ {l:List (Nat×AObj)} {k:Nat} {o:AObj},(k,o)∈l→(φ k,rnObj φ o)∈rnH φ l
  | (k',o')::r,k,o,h=>by
    simp only [rnH]
    rcases List.mem_cons.1 h with h | h
    · cases h;simp
    · exact List.mem_cons_of_mem _ (rnH_mem h)
theorem nodupB_inj:∀ {l:List Nat},nodupB l=true→∀ i j:Nat,i < l.length→j < l.length→l.getD i 0=l.getD j 0→i=j
  | [],_,i,j,hi,_,_=>by simp at hi
  | x::r,h,i,j,hi,hj,e=>by
    simp only [nodupB,Bool.and_eq_true,Bool.not_eq_true',List.contains_eq_mem,decide_eq_false_iff_not] at h
    have key:∀ k,k < r.length→r.getD k 0∈r:=fun k hk=>by simp [hk]
    cases i with
    | zero=>
      cases j with
      | zero=>rfl
      | succ j=>
        simp only [List.getD_cons_zero,List.getD_cons_succ] at e
        exact absurd (by rw [e];exact key j (by simpa using hj)) h.1
    | succ i=>
      cases j with
      | zero=>
        simp only [List.getD_cons_zero,List.getD_cons_succ] at e
        exact absurd (by rw [←e];exact key i (by simpa using hi)) h.1
      | succ j=>
        simp only [List.getD_cons_succ] at e
        rw [nodupB_inj h.2 i j (by simpa using hi) (by simpa using hj) e]
structure PhiOk (l:List Nat) (m next:Nat):Prop where
  len:l.length=m
  nd:nodupB l=true
  lt:∀ x∈l,x < next
def phiOkB (l:List Nat) (m next:Nat):Bool:=l.length == m&&nodupB l&&l.all fun x=>decide (x < next)
theorem phiOk_of {l:List Nat} {m next:Nat} (h:phiOkB l m next=true):PhiOk l m next:=by
  simp only [phiOkB,Bool.and_eq_true,beq_iff_eq,List.all_eq_true,decide_eq_true_eq] at h
  exact ⟨h.1.1,h.1.2,h.2⟩
theorem phi_lt {l:List Nat} {m next:Nat} (P:PhiOk l m next) {i:Nat} (hi:i < m):phi l m next i < next:=by
  simp only [phi,if_pos hi]
  exact P.lt _ (by simp [P.len,hi])
theorem phi_inj {l:List Nat} {m next:Nat} (P:PhiOk l m next) (i j:Nat) (e:phi l m next i=phi l m next j):i=j:=by
  rcases Nat.lt_or_ge i m with h1 | h1<;>rcases Nat.lt_or_ge j m with h2 | h2
  · simp only [phi,if_pos h1,if_pos h2] at e
    exact nodupB_inj P.nd i j (by rw [P.len];exact h1) (by rw [P.len];exact h2) e
  · have:=phi_lt P h1
    simp only [phi,if_neg (Nat.not_lt.2 h2)] at e this
    omega
  · have:=phi_lt P h2
    simp only [phi,if_neg (Nat.not_lt.2 h1)] at e this
    omega
  · simp only [phi,if_neg (Nat.not_lt.2 h1),if_neg (Nat.not_lt.2 h2)] at e
    omega
theorem ACall.det {C:Ctx} {f m d next:Nat} {args:List AV} {heap objs ups:List (Nat×AObj)} {l:List Nat} {r:AV} {K:AV→List (Nat×AObj)→Nat→Prop} (hc:CallP C f args l m next objs r ups d) (hp:phiOkB l m next=true) (ho:objsX heap l=some objs)
    (hK:K r (applyUps ups heap) (next+d)):ACall C f args heap next K:=by
  obtain ⟨args0,heap0,r0,heap1,heap2,D,T,rfl,rfl,rfl,rfl⟩:=hc
  have P:=phiOk_of hp
  refine ⟨D.det.1,fun g w vs R hv => ?_⟩
  have hth:=hup_thin (φ:=phi l m next) (n:=m+d) (h:=alGet heap) (fun i j _ _ e=>phi_inj P i j e) (fun p hp=>(D.k1 p hp).1) (fun i o hi=>objsX_mem ho _ (rnH_mem (alGet_mem hi))) T
  have:=frame (φ:=phi l m next) (N':=(· < next+d)) D.det D.k0 D.ka D.k1 D.kr D.all (fun i j _ _ e=>phi_inj P i j e)
    (fun i o hi=>objsX_mem ho _ (rnH_mem (alGet_mem hi))) (fun i hi=>phi_lt P hi) (fun i h1 _=>by simp only [phi,if_neg (Nat.not_lt.2 h1)];omega) (fun j hj=>by omega)
    (fun i hi=>by
      rcases Nat.lt_or_ge i m with h1 | h1
      · have:=phi_lt P h1;omega
      · simp only [phi,if_neg (Nat.not_lt.2 h1)];omega) R hv (by omega)
  refine this.mono ?_
  rintro e w' ⟨v,g',rfl,E,R',hr⟩
  refine ⟨v,_,_,_,g',rfl,hK,?_,?_,?_⟩
  · rw [alGet_applyUps,←hth];exact E
  · rw [alGet_applyUps,←hth];exact R'
  · rw [alGet_applyUps,←hth];exact hr
theorem LCall.det {C:Ctx} {f m next d:Nat} {args:List AV} {heap objs ups:List (Nat×AObj)} {l:List Nat} {r:AV} (hc:CallP C f args l m next objs r ups d) (hp:phiOkB l m next=true) (ho:objsX heap l=some objs) :
    LCall C f args (alGet heap) l r ups (List.range' next d):=by
  obtain ⟨args0,heap0,r0,heap1,heap2,D,T,rfl,rfl,rfl,rfl⟩:=hc
  have P:=phiOk_of hp
  refine ⟨D.det.1,fun g h N w vs hag hex R hv => ?_⟩
  have hmem:∀ i o,alGet heap0 i=some o→h (phi l m next i)=some (rnObj (phi l m next) o):=fun i o hi=>by
    have hi':=(D.k0 _ (alGet_mem hi)).1
    rw [hag _ (by simp only [phi,if_pos hi'];simp [P.len,hi'])]
    exact objsX_mem ho _ (rnH_mem (alGet_mem hi))
  have hNm:∀ i,i < m→N (phi l m next i):=fun i hi=>by
    obtain ⟨o,ho⟩:=Option.isSome_iff_exists.1 (D.all0 i hi)
    exact R.key _ _ (hmem i o ho)
  have hth:=hup_thin (φ:=phi l m next) (n:=m+d) (h:=h) (fun i j _ _ e=>phi_inj P i j e) (fun p hp=>(D.k1 p hp).1) hmem T
  rw [←hth]
  have hnew:∀ i,m≤i→i < m+d→phi l m next i∈List.range' next d:=fun i h1 h2=>by
    rw [List.mem_range'_1];simp only [phi,if_neg (show ¬ i < m by omega)];omega
  exact frame (φ:=phi l m next) (N':=plusL N (List.range' next d)) D.det D.k0 D.ka D.k1 D.kr D.all (fun i j _ _ e=>phi_inj P i j e) hmem hNm (fun i h1 h2=>hex _ (hnew i h1 h2)) (fun j hj=>.inl hj)
    (fun i hi=>by
      rcases Nat.lt_or_ge i m with h1 | h1
      · exact .inl (hNm i h1)
      · exact .inr (hnew i h1 hi)) R hv (by omega)
theorem DCall.det {C:Ctx} {f m next:Nat} {args:List AV} {heap objs ups:List (Nat×AObj)} {l:List Nat} {r:AV} {KD:List Nat→AV→List (Nat×AObj)→Prop} (hc:CallP C f args l m next objs r ups 0) (hp:phiOkB l m next=true) (ho:objsX heap l=some objs)
    (hK:KD l r ups):DCall C f args heap KD:=⟨l,_,_,LCall.det hc hp ho,hK⟩
def rowsA {α:Type} (f:α→List IV) (l:List α):List (List AV):=l.map fun x=>rowA (f x)
theorem rnRow_rowA (φ:Nat→Nat) (r:List IV):rnRow φ (rowA r)=rowA r:=by
  simp only [rnRow,rowA,List.map_map]
  exact List.map_congr_left fun x _=>rfl
theorem rnRows_rowsA {α:Type} (φ:Nat→Nat) (f:α→List IV) (l:List α):(rowsA f l).map (rnRow φ)=rowsA f l:=by
  simp only [rowsA,List.map_map]
  exact List.map_congr_left fun x _=>rnRow_rowA φ (f x)
theorem rhN {φ:Nat→Nat}:rnH φ []=[]:=rfl
theorem rhR {φ:Nat→Nat} {k:Nat} {o:AObj} {r s:List (Nat×AObj)} (h:rnH φ r=s):rnH φ ((k,o)::r)=(φ k,rnObj φ o)::s:=by rw [←h];rfl
theorem rhI {φ:Nat→Nat} {k sz:Nat} {α:Type} {f:α→List IV} {l:List α} {r s:List (Nat×AObj)} (h:rnH φ r=s):rnH φ ((k,.rows sz (rowsA f l))::r)=(φ k,.rows sz (rowsA f l))::s:=by
  rw [←h];simp only [rnH,rnObj,rnRows_rowsA]
theorem rowsA_below {α:Type} (m sz:Nat) (f:α→List IV) (l:List α):objBelow m (.rows sz (rowsA f l)):=by
  simp only [objBelow,rowsA]
  intro row hr x hx
  obtain ⟨y,_,rfl⟩:=List.mem_map.1 hr
  obtain ⟨z,_,rfl⟩:=List.mem_map.1 hx
  rfl
def entsA {α β:Type} (kf:α→IV) (vf:β→IV) (es:List (α×β)):List (IV×AV):=es.map fun e=>(kf e.1,.imm (vf e.2))
theorem entsA_below {α β:Type} (m:Nat) (kf:α→IV) (vf:β→IV) (es:List (α×β)):objBelow m (.map (entsA kf vf es)):=by
  simp only [objBelow,entsA]
  intro e he
  obtain ⟨y,_,rfl⟩:=List.mem_map.1 he
  rfl
theorem toIV_sub {h0 h:Nat→Option AObj} (hs:∀ i o,h0 i=some o→h i=some o):∀ (d:Nat) (x:AV) (y:IV),toIV h0 d x=some y→toIV h d x=some y:=by
  have lst:∀ {β γ:Type} {f f':β→Option γ},(∀ x y,f x=some y→f' x=some y)→∀ (l:List β) (r:List γ),mapO f l=some r→mapO f' l=some r:=by
    intro β γ f f' hf l
    induction l with
    | nil=>intro r h;exact h
    | cons a l ih=>
      intro r h
      simp only [mapO] at h ⊢
      split at h
      · rename_i b hb
        split at h
        · rename_i bs hbs
          cases h
          rw [hf _ _ hb]
          simp only
          rw [ih _ hbs]
        · cases h
      · cases h
  intro d
  induction d with
  | zero=>intro x y h;cases h
  | succ d ih=>
    intro x y h
    cases x<;>simp only [toIV] at h ⊢ <;> first | exact h | skip
    case mslice id off len=>
      split at h
      · rename_i sz rows ho
        rw [hs _ _ ho]
        simp only
        split at h
        · rename_i hle
          rw [if_pos hle]
          rw [Option.map_eq_some_iff] at h ⊢
          obtain ⟨r,h1,h2⟩:=h
          exact ⟨r,lst (fun row ys hrow=>lst (fun x y hx=>ih x y hx) row ys hrow) _ _ h1,h2⟩
        · cases h
      · cases h
    case agg cs=>
      rw [Option.map_eq_some_iff] at h ⊢
      obtain ⟨r,h1,h2⟩:=h
      exact ⟨r,lst (fun x y hx=>ih x y hx) _ _ h1,h2⟩
    case tuple cs=>
      rw [Option.map_eq_some_iff] at h ⊢
      obtain ⟨r,h1,h2⟩:=h
      exact ⟨r,lst (fun x y hx=>ih x y hx) _ _ h1,h2⟩
theorem mapO_sub {h0 h:Nat→Option AObj} (hs:∀ i o,h0 i=some o→h i=some o) {d:Nat}:∀ {args:List AV} {ivs:List IV},mapO (toIV h0 d) args=some ivs→mapO (toIV h d) args=some ivs
  | [],ivs,h=>h
  | a::l,ivs,h=>by
    simp only [mapO] at h ⊢
    split at h
    · rename_i b hb
      split at h
      · rename_i bs hbs
        cases h
        rw [toIV_sub hs d _ _ hb]
        simp only
        rw [mapO_sub hs hbs]
      · cases h
    · cases h
theorem alGet_objs {heap:List (Nat×AObj)} {l:List Nat} {objs:List (Nat×AObj)} (h:objsX heap l=some objs) (i:Nat) (o:AObj) (ho:alGet objs i=some o):alGet heap i=some o:=objsX_mem h _ (alGet_mem ho)
theorem LCall.snapS {C:Ctx} {f d:Nat} {args:List AV} {heap objs:List (Nat×AObj)} {l:List Nat} {ivs:List IV} {r:IV} (hp:APure C f ivs r) (ho:objsX heap l=some objs) (hl:∀ p∈objs,p.1∈l) (hx:mapO (toIV (alGet objs) d) args=some ivs) (hf:flatIV r=true):LCall C f args (alGet heap) l (.imm r) [] []:=by
  refine ⟨hp.1,fun g h N w vs hag hex R hv => ?_⟩
  have hsub:∀ i o,alGet objs i=some o→h i=some o:=fun i o hi=>by
    rw [hag i (hl _ (alGet_mem hi))];exact alGet_objs ho i o hi
  have hx':mapO (toIV h d) args=some ivs:=mapO_sub hsub hx
  exact (LCall.snap (h0:=h) hp hx' hf).2 g h N w vs (fun _ _=>rfl) hex R hv
theorem objsX_key {heap:List (Nat×AObj)}:∀ {l:List Nat} {objs:List (Nat×AObj)},objsX heap l=some objs→∀ p∈objs,p.1∈l
  | [],objs,h=>by cases h;intro p hp;cases hp
  | i::l,objs,h=>by
    simp only [objsX] at h
    split at h
    · cases h
    · rename_i o ho
      split at h
      · rename_i r hr
        cases h
        intro p hp
        rcases List.mem_cons.1 hp with rfl | hp
        · simp
        · exact List.mem_cons_of_mem _ (objsX_key hr p hp)
      · cases h
end Go.Proofs.YtjkljacdbljkpaaGreatDoor
namespace Go.Proofs.YtjkljacdbljkpaaGreatDoor
open Go.RowKit
set_option linter.unusedVariables false
set_option linter.unusedSimpArgs false
inductive Orc where
  | g (b:Bool)
  | n (k:Int)
  | r (row:List IV)
  | v (x:IV)
  | w (ids:List Nat) (ivs:List IV) (x:IV)
  | s (rows:List (List IV))
  | k (row:Nat)
  | ar (row:List AV)
  | aw (row:List AV) (rows:List (List AV))
  | m (n:Nat) (rows:List (List AV))
  | a (rows:List (List IV)) (n:Nat)
  | b (rows:List (List AV)) (n:Nat)
  | c (l:List Nat) (m:Nat) (r:AV) (ups:List (Nat×AObj)) (d:Nat)
  | l (x:AV) (b:Bool)
  | u (es:List (IV×AV))
def IdxP (rows:List (List IV)) (n:Int) (row:List IV):Prop:=0≤n∧rows[n.toNat]?=some row
def LenP (rows:List (List IV)) (k:Int):Prop:=(rows.length:Int)=k
def SlcP (rows:List (List IV)) (sz:Nat) (a b:Int) (r:List (List IV)):Prop:=0≤a∧a≤b∧b≤(rows.length:Int)∧(rows.all fun row=>row.length == sz)=true∧(rows.take b.toNat).drop a.toNat=r
def BinP (op:BinOp) (a b r:IV):Prop:=binIV op a b=some r
def MIdxP (n:Int) (off len row:Nat):Prop:=0≤n∧n < (len:Int)∧off+n.toNat=row
def RowP (rows:List (List AV)) (r:Nat) (row:List AV):Prop:=rows[r]?=some row
def StoP (rows:List (List AV)) (r:Nat) (row new:List AV) (rows':List (List AV)):Prop:=rows[r]?=some row∧rows.set r new=rows'
def MksP (n:Int) (by_:Nat) (zero:List AV) (k:Nat) (rows:List (List AV)):Prop:=(0≤n∧n < 2 ^ 31∧n*by_≤140737488355328)∧n.toNat=k∧List.replicate k zero=rows
def CopyP (sz:Nat) (rows new rows':List (List AV)) (len:Nat):Prop:=len=rows.length∧new.length=len∧(new.all fun row=>row.length == sz)=true∧new=rows'
def AppP (sz by_:Nat) (old new rows:List (List IV)) (len k:Nat):Prop:=(new.all fun row=>row.length == sz)=true∧old.length=len∧(len+new.length)*by_≤140737488355328∧old++new=rows∧len+new.length=k
def AppTP (sz by_:Nat) (old new rows:List (List AV)) (len k:Nat):Prop:=(new.all fun row=>row.length == sz)=true∧len=old.length∧(len+new.length)*by_≤140737488355328∧old++new=rows∧len+new.length=k
def LookP (str:Bool) (zero:AV) (k:IV) (es:List (IV×AV)) (x:AV) (b:Bool):Prop:=(keyIs str k&&keysOk k es)=true∧((findEntry k es=some x∧b=true)∨(findEntry k es=none∧zero=x∧b=false))
def UpdP (str:Bool) (k:IV) (v:AV) (es es':List (IV×AV)):Prop:=(keyIs str k&&keysOk k es)=true∧setEntry k v es=es'
def SnapP (args:List AV) (objs:List (Nat×AObj)) (ivs:List IV):Prop:=mapO (toIV (alGet objs) 5) args=some ivs
def inD (D:List Nat):Opd→Bool
  | .t n=>D.contains n
  | .c _=>true
abbrev XRes:=Option (AV×List (Nat×AObj)×List Nat×List Orc×List Prop×Nat)
def plainX (op:AOp) (orc:List Orc) (st:St):XRes:=match evalOp op (evEnv st.env) (alGet st.heap) st.next with
  | some (r,ups)=>some (r,ups,readIds op (evEnv st.env),orc,[],0)
  | none=>none
def pickX (op:AOp) (orc:List Orc) (st:St) (lit:Bool) (a b:AV):AV→XRes
  | .imm (.bool x)=>match lit with
    | true=>match x with
      | true=>some (a,[],readIds op (evEnv st.env),orc,[],0)
      | false=>some (b,[],readIds op (evEnv st.env),orc,[],0)
    | false=>match orc with
      | .g true::o=>some (a,[],readIds op (evEnv st.env),o,[x=true],0)
      | .g false::o=>some (b,[],readIds op (evEnv st.env),o,[x=false],0)
      | _=>none
  | _=>none
def lenX (op:AOp) (orc:List Orc) (st:St):AV→XRes
  | .imm (.slice rows) | .gslice _ rows=>match orc with
    | .n k::o=>some (.imm (.int .i64 k),[],readIds op (evEnv st.env),o,[LenP rows k],0)
    | _=>none
  | _=>plainX op orc st
def idxX (op:AOp) (sz:Nat) (orc:List Orc) (st:St) (i:AV):AV→XRes
  | .imm (.slice rows) | .gslice _ rows=>match i with
    | .imm (.int _ n)=>match orc with
      | .r row::o=>if row.length=sz then some (.eptr row,[],readIds op (evEnv st.env),o,[IdxP rows n row],0) else none
      | _=>none
    | _=>none
  | .mslice j off len=>match orc with
    | .k row::o=>match i with
      | .imm (.int _ n)=>match alGet st.heap j with
        | some (.rows sz' _)=>if sz'=sz then some (.ptr j row 0,[],readIds op (evEnv st.env),o,[MIdxP n off len row],0) else none
        | _=>none
      | _=>none
    | _=>plainX op orc st
  | _=>plainX op orc st
def idxaX (op:AOp) (len sz:Nat) (orc:List Orc) (st:St) (i x:AV):XRes:=match orc with
  | .k row::o=>match x with
    | .ptr j 0 0=>match i with
      | .imm (.int _ n)=>match alGet st.heap j with
        | some (.rows sz' _)=>if sz'=sz then some (.ptr j row 0,[],readIds op (evEnv st.env),o,[MIdxP n 0 len row],0) else none
        | _=>none
      | _=>none
    | _=>none
  | _=>plainX op orc st
def binX (op:AOp) (bop:BinOp) (orc:List Orc) (st:St) (x y:AV):XRes:=match bop with
  | .quo | .rem | .shl | .shr=>match x,y with
    | .imm a,.imm b=>match orc with
      | .v r::o=>some (.imm r,[],readIds op (evEnv st.env),o,[BinP bop a b r],0)
      | _=>none
    | _,_=>none
  | _=>plainX op orc st
def bndX (st:St) (dflt:Int):Option Opd→Option Int
  | none=>some dflt
  | some y=>match evEnv st.env y with
    | .imm (.int _ n)=>some n
    | _=>none
def slcX (op:AOp) (sz:Nat) (orc:List Orc) (st:St) (lo hi:Option Opd):AV→XRes
  | .imm (.slice rows)=>match bndX st 0 lo,bndX st (rows.length:Int) hi,orc with
    | some a,some b,.s r::o=>some (.imm (.slice r),[],readIds op (evEnv st.env),o,[SlcP rows sz a b r],0)
    | _,_,_=>none
  | _=>none
def callX (C:Ctx) (orc:List Orc) (st:St) (args:List AV):AV→XRes
  | .func f first caps=>match orc with
    | .v x::o=>match mapO (toIV (alGet st.heap) 5) (first++args++caps) with
      | some ivs=>match (first++args++caps).all (noMut 5) with
        | true=>some (.imm x,[],[],o,[APure C f ivs x],0)
        | false=>none
      | none=>none
    | .w ids ivs x::o=>match objsX st.heap ids with
      | some objs=>match flatIV x with
        | true=>some (.imm x,[],ids,o,[APure C f ivs x,SnapP (first++args++caps) objs ivs],0)
        | false=>none
      | none=>none
    | .c l m r ups d::o=>match objsX st.heap l with
      | some objs=>match phiOkB l m st.next with
        | true=>some (r,ups,l,o,[CallP C f (first++args++caps) l m st.next objs r ups d],d)
        | false=>none
      | none=>none
    | _=>none
  | _=>none
def loadX (op:AOp) (agg:Bool) (n:Nat) (orc:List Orc) (st:St) (x:AV):XRes:=match orc with
  | .ar row::o=>match x with
    | .ptr i r f=>match alGet st.heap i with
      | some (.rows _ rows)=>match agg with
        | true=>if f+n≤row.length then some (.agg ((row.drop f).take n),[],readIds op (evEnv st.env),o,[RowP rows r row],0) else none
        | false=>match row[f]? with
          | some c=>some (c,[],readIds op (evEnv st.env),o,[RowP rows r row],0)
          | none=>none
      | _=>none
    | _=>none
  | _=>plainX op orc st
def storeX (op:AOp) (n:Nat) (orc:List Orc) (st:St) (x:AV) (v:Option (List AV)):XRes:=match orc with
  | .aw row rows'::o=>match x with
    | .ptr i r f=>match v with
      | some cs=>match alGet st.heap i with
        | some (.rows sz rows)=>if cs.length=n∧f+n≤row.length then some (.undef,[(i,.rows sz rows')],readIds op (evEnv st.env),o,[StoP rows r row (putCells row f cs) rows'],0) else none
        | _=>none
      | none=>none
    | _=>none
  | _=>plainX op orc st
def mksX (op:AOp) (sz by_:Nat) (zero:List AV) (orc:List Orc) (st:St) (x:AV):XRes:=match orc with
  | .m k rows::o=>match x with
    | .imm (.int .i64 n)=>some (.mslice st.next 0 k,[(st.next,.rows sz rows)],readIds op (evEnv st.env),o,[MksP n by_ zero k rows],0)
    | _=>none
  | _=>plainX op orc st
def appX (op:AOp) (sz by_:Nat) (orc:List Orc) (st:St) (x:AV) (s:AV):XRes:=match orc with
  | .a rows k::o=>match rowsOf (alGet st.heap) x with
    | some new=>match s with
      | .nil=>some (.gslice st.next rows,[(st.next,.tip sz k)],readIds op (evEnv st.env),o,[AppP sz by_ [] new rows 0 k],0)
      | .gslice i old=>match alGet st.heap i with
        | some (.tip sz' len)=>if sz'=sz then some (.gslice i rows,[(i,.tip sz k)],readIds op (evEnv st.env),o,[AppP sz by_ old new rows len k],0) else none
        | _=>none
      | _=>none
    | none=>none
  | .b rows k::o=>match rowsAV (alGet st.heap) x with
    | some new=>match s with
      | .mslice i off len=>match alGet st.heap i with
        | some (.rows sz' old)=>if sz'=sz∧off=0 then some (.mslice st.next 0 k,[(st.next,.rows sz rows),(i,.dead)],readIds op (evEnv st.env),o,[AppTP sz by_ old new rows len k],0) else none
        | _=>none
      | _=>none
    | none=>none
  | _=>plainX op orc st
def lookX (op:AOp) (str:Bool) (zero:AV) (ok:Bool) (orc:List Orc) (st:St) (k m:AV):XRes:=match orc with
  | .l x b::o=>match m,k with
    | .map i,.imm k=>match alGet st.heap i with
      | some (.map es)=>some (match ok with | true=>.tuple [x,.imm (.bool b)] | false=>x,[],readIds op (evEnv st.env),o,[LookP str zero k es x b],0)
      | _=>none
    | _,_=>none
  | _=>plainX op orc st
def updX (op:AOp) (str:Bool) (orc:List Orc) (st:St) (v k m:AV):XRes:=match orc with
  | .u es'::o=>match m,k with
    | .map i,.imm k=>match alGet st.heap i with
      | some (.map es)=>some (.undef,[(i,.map es')],readIds op (evEnv st.env),o,[UpdP str k v es es'],0)
      | _=>none
    | _,_=>none
  | _=>plainX op orc st
def copyX (op:AOp) (sz:Nat) (orc:List Orc) (st:St) (x:AV) (d:AV):XRes:=match orc with
  | .b rows' _::o=>match rowsAV (alGet st.heap) x with
    | some new=>match d with
      | .mslice i 0 len=>match alGet st.heap i with
        | some (.rows sz' rows)=>if sz'=sz then some (.imm (.int .i64 (len:Int)),[(i,.rows sz rows')],readIds op (evEnv st.env),o,[CopyP sz rows new rows' len],0) else none
        | _=>none
      | _=>none
    | none=>none
  | _=>plainX op orc st
def ixaX (op:AOp) (len sz:Nat) (orc:List Orc) (st:St) (i x:AV):XRes:=match orc with
  | .k row::o=>match x with
    | .agg cs=>match i with
      | .imm (.int _ n)=>match cs[row]? with
        | some c=>if sz=1 then some (c,[],readIds op (evEnv st.env),o,[MIdxP n 0 len row],0) else none
        | none=>none
      | _=>none
    | _=>none
  | _=>plainX op orc st
def opX (C:Ctx) (op:AOp) (orc:List Orc) (D:List Nat) (st:St):XRes:=match op with
  | .pick c a b=>pickX op orc st (inD D c) (evEnv st.env a) (evEnv st.env b) (evEnv st.env c)
  | .len x=>lenX op orc st (evEnv st.env x)
  | .idx sz x i=>idxX op sz orc st (evEnv st.env i) (evEnv st.env x)
  | .idxa len sz x i=>idxaX op len sz orc st (evEnv st.env i) (evEnv st.env x)
  | .bin bop x y=>binX op bop orc st (evEnv st.env x) (evEnv st.env y)
  | .slc sz x lo hi=>slcX op sz orc st lo hi (evEnv st.env x)
  | .call f args=>callX C orc st (args.map (evEnv st.env)) (evEnv st.env f)
  | .load agg n x=>loadX op agg n orc st (evEnv st.env x)
  | .store n x v=>storeX op n orc st (evEnv st.env x) (cellsOf (evEnv st.env v))
  | .mks sz by_ zero n=>mksX op sz by_ zero orc st (evEnv st.env n)
  | .app sz by_ s x=>appX op sz by_ orc st (evEnv st.env x) (evEnv st.env s)
  | .look str zero ok m k=>lookX op str zero ok orc st (evEnv st.env k) (evEnv st.env m)
  | .upd str m k v=>updX op str orc st (evEnv st.env v) (evEnv st.env k) (evEnv st.env m)
  | .copy sz d x=>copyX op sz orc st (evEnv st.env x) (evEnv st.env d)
  | .ixa len sz x i=>ixaX op len sz orc st (evEnv st.env i) (evEnv st.env x)
  | op=>plainX op orc st
def guardX (gd:Option (Nat×Bool)) (orc:List Orc) (D:List Nat) (st:St):Option (Bool×List Orc×List Prop×List Nat×St):=match gd with
  | none=>some (true,orc,[],D,st)
  | some (t,want)=>match (alGet st.env t).getD .top with
    | .undef=>some (false,orc,[],D,st)
    | .imm (.bool b)=>match D.contains t with
      | true=>match b with
        | true=>some (want,orc,[],D,st)
        | false=>some (!want,orc,[],D,st)
      | false=>match orc with
        | .g true::o=>some (want,o,[b=true],t::D,{st with env:=alSet st.env t (.imm (.bool true))})
        | .g false::o=>some (!want,o,[b=false],t::D,{st with env:=alSet st.env t (.imm (.bool false))})
        | _=>none
    | _=>none
def ordX (dr:Option (List Nat)) (j:Nat) (W R:List (Nat×Nat)) (ups:List (Nat×AObj)) (rd:List Nat) (d:Nat):Bool:=match dr with
  | none=>true
  | some ord=>d == 0&&okAt ord j W R (upIds ups) rd
def St.afterD (st:St) (dst:Option Nat) (r:AV) (ups:List (Nat×AObj)) (d:Nat):St:=
  St.put {st with heap:=applyUps ups st.heap,next:=st.next+d+1} dst r
def dropD (D:List Nat):Option Nat→List Nat
  | some d=>D.filter (· != d)
  | none=>D
def runX (C:Ctx) (dr:Option (List Nat)):List AItem→Nat→List (Nat×Nat)→List (Nat×Nat)→List Orc→List Nat→St→Option (St×List Prop)
  | [],_,_,_,orc,_,st=>match orc with
    | []=>some (st,[])
    | _=>none
  | it::rest,j,W,R,orc,D,st=>match guardX it.guard orc D st with
    | none=>none
    | some (false,o,ps,D',st')=>match runX C dr rest (j+1) W R o (dropD D' it.dst) (st'.after it.dst .undef []) with
      | some (s,qs)=>some (s,ps++qs)
      | none=>none
    | some (true,o,ps,D',st')=>match opX C it.op o D' st' with
      | none=>none
      | some (r,ups,rd,o',ps',d)=>match ordX dr j W R ups rd d with
        | false=>none
        | true=>match runX C dr rest (j+1) (addAt j (upIds ups) W) (addAt j rd R) o' (dropD D' it.dst) (st'.afterD it.dst r ups d) with
          | some (s,qs)=>some (s,ps++(ps'++qs))
          | none=>none
section
variable {C:Ctx}
theorem alSet_same {α:Type}:∀ {l:List (Nat×α)} {t:Nat} {x:α},alGet l t=some x→alSet l t x=l
  | [],t,x,h=>by cases h
  | (k,v)::r,t,x,h=>by
    simp only [alGet] at h
    simp only [alSet]
    split at h
    · rename_i e;subst e;cases h;simp
    · rename_i e;rw [if_neg e,alSet_same h]
theorem plainX_some {op:AOp} {orc o':List Orc} {st:St} {r:AV} {ups:List (Nat×AObj)} {rd:List Nat} {ps:List Prop} {d:Nat} (h:plainX op orc st=some (r,ups,rd,o',ps,d)) :
    evalOp op (evEnv st.env) (alGet st.heap) st.next=some (r,ups)∧rd=readIds op (evEnv st.env)∧d=0:=by
  unfold plainX at h
  split at h
  · rename_i e;cases h;exact ⟨e,rfl,rfl⟩
  · cases h
def isCall:AOp→Bool
  | .call _ _=>true
  | _=>false
theorem evalOp_slc {st:St} {sz id:Nat} {x:Opd} {lo hi:Option Opd} {rows:List (List IV)} {h:Nat→Option AObj} (hx:evEnv st.env x=.imm (.slice rows)):evalOp (.slc sz x lo hi) (evEnv st.env) h id=match bndX st 0 lo,bndX st (rows.length:Int) hi with
    | some a,some b=>if 0≤a∧a≤b∧b≤(rows.length:Int)∧(rows.all fun row=>row.length == sz)=true then some (.imm (.slice ((rows.take b.toNat).drop a.toNat)),[]) else none
    | _,_=>none:=by
  simp only [evalOp,hx]
  cases lo<;>cases hi<;>rfl
theorem opX_eval {op:AOp} {orc o':List Orc} {D:List Nat} {st:St} {r:AV} {ups:List (Nat×AObj)} {rd:List Nat} {ps:List Prop} {d:Nat} (hc:isCall op=false) (h:opX C op orc D st=some (r,ups,rd,o',ps,d)) (hp:AllP ps) :
    evalOp op (evEnv st.env) (alGet st.heap) st.next=some (r,ups)∧rd=readIds op (evEnv st.env)∧d=0:=by
  cases op
  case call=>cases hc
  case pick c a b=>
    simp only [opX] at h
    unfold pickX at h
    simp only [evalOp]
    split at h
    · rename_i x hx
      split at h
      · split at h<;>(cases h;rw [hx];exact ⟨rfl,rfl,rfl⟩)
      · split at h
        · cases h;have:=hp.one;subst this;rw [hx];exact ⟨rfl,rfl,rfl⟩
        · cases h;have:=hp.one;subst this;rw [hx];exact ⟨rfl,rfl,rfl⟩
        · cases h
    · cases h
  case len x=>
    simp only [opX] at h
    unfold lenX at h
    split at h
    · rename_i rows hx
      split at h
      · cases h
        have:=hp.one
        refine ⟨?_,rfl,rfl⟩
        simp only [evalOp,lenOfAV,hx]
        unfold LenP at this
        rw [this]
      · cases h
    · rename_i rows hx
      split at h
      · cases h
        have:=hp.one
        refine ⟨?_,rfl,rfl⟩
        simp only [evalOp,lenOfAV,hx]
        unfold LenP at this
        rw [this]
      · cases h
    · exact plainX_some h
  case idx sz x i=>
    simp only [opX] at h
    unfold idxX at h
    split at h
    · rename_i rows hx
      split at h
      · rename_i k n hi
        split at h
        · split at h
          · rename_i hl
            cases h
            have:=hp.one
            refine ⟨?_,rfl,rfl⟩
            simp only [evalOp,hx,hi,if_pos this.1,this.2,if_pos hl]
          · cases h
        · cases h
      · cases h
    · rename_i rows hx
      split at h
      · rename_i k n hi
        split at h
        · split at h
          · rename_i hl
            cases h
            have:=hp.one
            refine ⟨?_,rfl,rfl⟩
            simp only [evalOp,hx,hi,if_pos this.1,this.2,if_pos hl]
          · cases h
        · cases h
      · cases h
    · rename_i j off len hx
      split at h
      · split at h
        · rename_i k n hi
          split at h
          · rename_i sz' rows ho
            split at h
            · rename_i hsz
              cases h
              obtain ⟨h1,h2,h3⟩:=hp.one
              refine ⟨?_,rfl,rfl⟩
              simp only [evalOp,hx,hi,ho]
              rw [if_pos ⟨hsz,h1,h2⟩,h3]
            · cases h
          · cases h
        · cases h
      · exact plainX_some h
    · exact plainX_some h
  case idxa len sz x i=>
    simp only [opX] at h
    unfold idxaX at h
    split at h
    · split at h
      · rename_i j hx
        split at h
        · rename_i k n hi
          split at h
          · rename_i sz' rows ho
            split at h
            · rename_i hsz
              cases h
              obtain ⟨h1,h2,h3⟩:=hp.one
              refine ⟨?_,rfl,rfl⟩
              simp only [evalOp,hx,hi,ho]
              rw [if_pos ⟨hsz,h1,h2⟩,←h3,Nat.zero_add]
            · cases h
          · cases h
        · cases h
      · cases h
    · exact plainX_some h
  case bin bop x y=>
    simp only [opX] at h
    unfold binX at h
    split at h
    all_goals first
      | exact plainX_some h
      | skip
    all_goals
      split at h
      · rename_i a b hx hy
        split at h
        · cases h
          have:=hp.one
          unfold BinP at this
          refine ⟨?_,rfl,rfl⟩
          simp only [evalOp,hx,hy,this,Option.map_some]
        · cases h
      · cases h
  case slc sz x lo hi=>
    simp only [opX] at h
    unfold slcX at h
    split at h
    · rename_i rows hx
      split at h
      · rename_i a b r' o ha hb
        cases h
        obtain ⟨h1,h2,h3,h4,h5⟩:=hp.one
        refine ⟨?_,rfl,rfl⟩
        rw [evalOp_slc hx,ha,hb]
        simp only
        rw [if_pos ⟨h1,h2,h3,h4⟩,h5]
      · cases h
    · cases h
  case load agg n x=>
    simp only [opX] at h
    unfold loadX at h
    split at h
    · split at h
      · rename_i i rw_ f hx
        split at h
        · rename_i sz rows ho
          split at h
          · split at h
            · rename_i hle
              cases h
              have h1:=hp.one
              unfold RowP at h1
              refine ⟨?_,rfl,rfl⟩
              simp only [evalOp,hx,ho,h1,if_true]
              rw [if_pos hle]
            · cases h
          · split at h
            · rename_i c hcell
              cases h
              have h1:=hp.one
              unfold RowP at h1
              refine ⟨?_,rfl,rfl⟩
              simp only [evalOp,hx,ho,h1,hcell,Option.map_some,Bool.false_eq_true,if_false]
            · cases h
        · cases h
      · cases h
    · exact plainX_some h
  case store n x v=>
    simp only [opX] at h
    unfold storeX at h
    split at h
    · split at h
      · rename_i i rw_ f hx
        split at h
        · rename_i cs hcs
          split at h
          · rename_i sz rows ho
            split at h
            · rename_i hle
              cases h
              obtain ⟨h1,h2⟩:=hp.one
              refine ⟨?_,rfl,rfl⟩
              simp only [evalOp,hx,hcs,ho,h1]
              rw [if_pos hle,h2]
            · cases h
          · cases h
        · cases h
      · cases h
    · exact plainX_some h
  case mks sz by_ zero n=>
    simp only [opX] at h
    unfold mksX at h
    split at h
    · split at h
      · rename_i k rows o n' hx
        cases h
        obtain ⟨h1,h2,h3⟩:=hp.one
        refine ⟨?_,rfl,rfl⟩
        simp only [evalOp,hx]
        rw [if_pos h1,h2,h3]
      · cases h
    · exact plainX_some h
  case app sz by_ s x=>
    simp only [opX] at h
    unfold appX at h
    split at h
    · split at h
      · rename_i new hnew
        split at h
        · rename_i hs
          cases h
          obtain ⟨h1,h2,h3,h4,h5⟩:=hp.one
          refine ⟨?_,rfl,rfl⟩
          simp only [evalOp,hs,appF,hnew,h1]
          simp only [List.nil_append] at h4
          subst h4
          simp only [Nat.zero_add] at h3 h5
          subst h5
          simp [h3]
        · rename_i i old hs
          split at h
          · rename_i sz' len ho
            split at h
            · rename_i hsz
              cases h
              obtain ⟨h1,h2,h3,h4,h5⟩:=hp.one
              refine ⟨?_,rfl,rfl⟩
              simp only [evalOp,hs,appF,hnew,h1,ho]
              subst h4 h5
              simp [hsz,h2,h3]
            · cases h
          · cases h
        · cases h
      · cases h
    · split at h
      · rename_i new hnew
        split at h
        · rename_i i off len hs
          split at h
          · rename_i sz' old ho
            split at h
            · rename_i hsz
              cases h
              obtain ⟨h1,h2,h3,h4,h5⟩:=hp.one
              refine ⟨?_,rfl,rfl⟩
              simp only [evalOp,hs,appT,hnew,h1,ho]
              simp only [Bool.not_true,Bool.false_eq_true,if_false]
              rw [if_pos ⟨hsz.1,hsz.2,h2,h3⟩,h4,h5]
            · cases h
          · cases h
        · cases h
      · cases h
    · exact plainX_some h
  case look str zero ok m k=>
    simp only [opX] at h
    unfold lookX at h
    split at h
    · split at h
      · rename_i i kk hm hk
        split at h
        · rename_i es ho
          cases h
          obtain ⟨h1,h2⟩:=hp.one
          refine ⟨?_,rfl,rfl⟩
          simp only [evalOp,hm,hk,ho,h1,if_true]
          rcases h2 with ⟨h3,h4⟩ | ⟨h3,h4,h5⟩
          · rw [h3,h4];cases ok<;>rfl
          · rw [h3,h4,h5];cases ok<;>rfl
        · cases h
      · cases h
    · exact plainX_some h
  case upd str m k v=>
    simp only [opX] at h
    unfold updX at h
    split at h
    · split at h
      · rename_i i kk hm hk
        split at h
        · rename_i es ho
          cases h
          obtain ⟨h1,h2⟩:=hp.one
          refine ⟨?_,rfl,rfl⟩
          simp only [evalOp,hm,hk,ho,h1,if_true,h2]
        · cases h
      · cases h
    · exact plainX_some h
  case copy sz d x=>
    simp only [opX] at h
    unfold copyX at h
    split at h
    · split at h
      · rename_i new hnew
        split at h
        · rename_i i len hd
          split at h
          · rename_i sz' rows ho
            split at h
            · rename_i hsz
              cases h
              obtain ⟨h1,h2,h3,h4⟩:=hp.one
              refine ⟨?_,rfl,rfl⟩
              simp only [evalOp,copyF,hd,ho,hnew]
              rw [if_pos ⟨hsz,h1,h2,h3⟩,h4]
            · cases h
          · cases h
        · cases h
      · cases h
    · exact plainX_some h
  case ixa len sz x i=>
    simp only [opX] at h
    unfold ixaX at h
    split at h
    · split at h
      · rename_i cs hx
        split at h
        · rename_i k n hi
          split at h
          · rename_i c hc
            split at h
            · rename_i hsz
              cases h
              obtain ⟨h1,h2,h3⟩:=hp.one
              refine ⟨?_,rfl,rfl⟩
              simp only [evalOp,hx,hi]
              rw [Nat.zero_add] at h3
              rw [if_pos ⟨hsz,h1,h2⟩,h3,hc]
              rfl
            · cases h
          · cases h
        · cases h
      · cases h
    · exact plainX_some h
  all_goals exact plainX_some h
theorem opX_ev {C:CtxY} {op:AOp} {orc o':List Orc} {D:List Nat} {st:St} {r:AV} {ups:List (Nat×AObj)} {rd:List Nat} {ps:List Prop} {d:Nat} {dst:Option Nat} {K:St→Prop} (h:opX C op orc D st=some (r,ups,rd,o',ps,d)) (hp:AllP ps) (hK:K (st.afterD dst r ups d)) :
    evOp C dst K st op:=by
  cases hc:isCall op
  · obtain ⟨e,_,rfl⟩:=opX_eval hc h hp
    cases op<;>first | (cases hc;done) | (simp only [evOp];rw [e];exact hK)
  · cases op<;>first | (cases hc;done) | skip
    rename_i f args
    simp only [opX] at h
    unfold callX at h
    split at h
    · rename_i f' first caps hf
      simp only [evOp,hf]
      split at h
      · split at h
        · rename_i ivs hiv
          split at h
          · rename_i hm;cases h;exact ACall.pure (d:=5) hp.one hm hiv hK
          · cases h
        · cases h
      · split at h
        · rename_i objs ho
          split at h
          · rename_i hm
            cases h
            cases hp with
            | cons h1 h2=>exact ACall.snap (d:=5) h1 (mapO_sub (alGet_objs ho) h2.one) hm hK
          · cases h
        · cases h
      · split at h
        · rename_i objs ho
          split at h
          · rename_i hm
            cases h
            exact ACall.det hp.one hm ho hK
          · cases h
        · cases h
      · cases h
    · cases h
theorem guardX_some {gd:Option (Nat×Bool)} {orc o:List Orc} {D D':List Nat} {st st':St} {b:Bool} {ps:List Prop} (h:guardX gd orc D st=some (b,o,ps,D',st')) (hp:AllP ps):st'=st∧guardOf st.env gd=some b:=by
  unfold guardX at h
  split at h
  · cases h;exact ⟨rfl,rfl⟩
  · rename_i t want
    split at h
    · rename_i e;cases h;exact ⟨rfl,by simp only [guardOf,e]⟩
    · rename_i x e
      have hget:alGet st.env t=some (.imm (.bool x)):=by
        cases h1:alGet st.env t with
        | none=>rw [h1] at e;cases e
        | some y=>rw [h1] at e;simp only [Option.getD_some] at e;rw [e]
      split at h
      · split at h
        · cases h;exact ⟨rfl,by simp only [guardOf,e];cases b<;>rfl⟩
        · cases h;exact ⟨rfl,by simp only [guardOf,e];cases want<;>rfl⟩
      · split at h
        · cases h;have:=hp.one;subst this;exact ⟨by rw [alSet_same hget],by simp only [guardOf,e];cases b<;>rfl⟩
        · cases h;have:=hp.one;subst this;exact ⟨by rw [alSet_same hget],by simp only [guardOf,e];cases want<;>rfl⟩
        · cases h
    · cases h
theorem evIt_of {C:CtxY} {it:AItem} {st:St} {b:Bool} {K:St→Prop} (hg:guardOf st.env it.guard=some b) (h1:b=true→evOp C it.dst K st it.op) (h2:b=false→K (st.after it.dst .undef [])):evIt C it K st:=by
  unfold evIt
  cases hgd:it.guard with
  | none=>rw [hgd] at hg;simp only [guardOf,Option.some.injEq] at hg;exact h1 hg.symm
  | some p=>
    obtain ⟨t,want⟩:=p
    rw [hgd] at hg
    simp only [guardOf] at hg
    simp only [evGV]
    split at hg
    · rename_i x e
      rw [e]
      simp only [Option.some.injEq] at hg
      simp only
      rw [hg]
      cases b
      · exact h2 rfl
      · exact h1 rfl
    · rename_i e
      rw [e]
      simp only [Option.some.injEq] at hg
      exact h2 hg.symm
    · cases hg
theorem evl_run {C:CtxY}:∀ {items:List AItem} {j:Nat} {W R:List (Nat×Nat)} {orc:List Orc} {D:List Nat} {st st':St} {ps:List Prop} {K:St→Prop},runX C none items j W R orc D st=some (st',ps)→AllP ps→K st'→evl C items K st
  | [],j,W,R,orc,D,st,st',ps,K,h,hp,hK=>by
    simp only [runX] at h
    split at h
    · cases h;exact hK
    · cases h
  | it::rest,j,W,R,orc,D,st,st',ps,K,h,hp,hK=>by
    simp only [runX] at h
    split at h
    · cases h
    · rename_i o qs D' s hg
      split at h
      · rename_i s2 rs hr
        cases h
        obtain ⟨p1,p2⟩:=hp.app
        obtain ⟨rfl,hgd⟩:=guardX_some hg p1
        exact evIt_of hgd (fun h=>by cases h) (fun _=>evl_run hr p2 hK)
      · cases h
    · rename_i o qs D' s hg
      split at h
      · cases h
      · rename_i r ups rd o' ps' d hop
        split at h
        · cases h
        · split at h
          · rename_i s2 rs hr
            cases h
            obtain ⟨p1,p2⟩:=hp.app
            obtain ⟨p3,p4⟩:=p2.app
            obtain ⟨rfl,hgd⟩:=guardX_some hg p1
            exact evIt_of hgd (fun _=>opX_ev hop p3 (evl_run hr p4 hK)) (fun h=>by cases h)
          · cases h
theorem okAt_nil (ord:List Nat) (j:Nat) (W R:List (Nat×Nat)):okAt ord j W R [] []=true:=by
  simp [okAt]
def regX (C:Ctx) (dr:Option (List Nat)) (items:List AItem) (ks:List Nat) (orc:List Orc) (st:St):Option (St×List Prop):=match runX C dr items 0 [] [] orc [] st with
  | some (s,ps)=>some (s.keep (some ks),ps)
  | none=>none
theorem reg_fast {C:CtxY} {nt:Fr} {o:List Nat} {items:List AItem} {ks:List Nat} {K:Exit→St→Prop} {st st':St} (orc:List Orc) {ps:List Prop} (hp:AllP ps) (hK:K .normal st') (h:regX C none items ks orc st=some (st',ps)):awp C nt (.region false o items (some ks)) K st:=by
  unfold regX at h
  split at h
  · rename_i s qs hr
    cases h
    exact awp_reg (evl_run hr hp hK)
  · cases h
end
theorem len_side {α:Type} (f:α→List IV) (l:List α):LenP (List.map f l) (l.length:Int):=by simp [LenP]
theorem idx_side {α:Type} (f:α→List IV) {l:List α} {n:Int} {e:α} (h:idxI l n=some e):IdxP (List.map f l) n (f e):=by
  obtain ⟨h1,h2,_⟩:=idxI_some h
  exact ⟨h1,by simp [h2]⟩
theorem slc_side {α:Type} (f:α→List IV) (sz:Nat) (hf:∀ x,(f x).length=sz) {l e:List α} {a b:Int} (h:slcI l a b=some e):SlcP (List.map f l) sz a b (List.map f e):=by
  obtain ⟨h1,h2,h3,h4⟩:=slcI_some h
  exact ⟨h1,h2,by simpa using h3,by simp [hf],by rw [←h4];simp [List.map_take,List.map_drop]⟩
theorem rem_side {k:IntKind} {a b e:Int} (h:remI k a b=some e):BinP .rem (.int k a) (.int k b) (.int k e):=by
  obtain ⟨h1,h2⟩:=remI_some h
  simp [BinP,h1,h2]
section
variable {α β:Type}
def idxN (len:Nat) (n:Int):Option Nat:=if 0≤n∧n < (len:Int) then some n.toNat else none
theorem midx_side {len k:Nat} {n:Int} (h:idxN len n=some k):MIdxP n 0 len k:=by
  unfold idxN at h;split at h
  · rename_i hh;cases h;exact ⟨hh.1,hh.2,by omega⟩
  · cases h
theorem row_side (f:α→List IV) {l:List α} {k:Nat} {e:α} (h:l[k]?=some e):RowP (rowsA f l) k (rowA (f e)):=by
  unfold RowP rowsA;rw [List.getElem?_map,h];rfl
theorem sto_side (f:α→List IV) {l:List α} {k:Nat} {e:α} (e':α) (h:l[k]?=some e):StoP (rowsA f l) k (rowA (f e)) (rowA (f e')) (rowsA f (l.set k e')):=by
  refine ⟨row_side f h,?_⟩
  simp only [rowsA,List.map_set]
theorem set_get {l:List α} {k:Nat} {e:α} (e':α) (h:l[k]?=some e):(l.set k e')[k]?=some e':=by
  obtain ⟨hk,_⟩:=List.getElem?_eq_some_iff.1 h
  simp [hk]
def mkN (by_:Nat) (n:Int):Option Nat:=if 0≤n∧n < 2 ^ 31∧n*by_≤140737488355328 then some n.toNat else none
theorem mks_side (f:α→List IV) (z:α) {by_ k:Nat} {n:Int} (h:mkN by_ n=some k):MksP n by_ (rowA (f z)) k (rowsA f (List.replicate k z)):=by
  unfold mkN at h;split at h
  · rename_i hh;cases h;exact ⟨hh,rfl,by simp [rowsA]⟩
  · cases h
theorem mks_side0 (row:List AV) {by_ k:Nat} {n:Int} (h:mkN by_ n=some k):MksP n by_ row k (List.replicate k row):=by
  unfold mkN at h;split at h
  · rename_i hh;cases h;exact ⟨hh,rfl,rfl⟩
  · cases h
def copyI (k:Nat) (d l:List α):Option (List α):=if k=d.length∧l.length=k then some l else none
theorem copyI_some {k:Nat} {d l e:List α} (h:copyI k d l=some e):k=d.length∧l.length=k∧e=l:=by
  unfold copyI at h;split at h
  · rename_i hh;cases h;exact ⟨hh.1,hh.2,rfl⟩
  · cases h
theorem copy_side (f:α→List IV) (sz:Nat) (hf:∀ x,(f x).length=sz) {k:Nat} {d l e:List α} (h:copyI k d l=some e):CopyP sz (rowsA f d) (List.map (List.map AV.imm) (List.map f l)) (rowsA f e) k:=by
  obtain ⟨h1,h2,rfl⟩:=copyI_some h
  refine ⟨by simpa [rowsA] using h1,by simpa using h2,by simp [hf],?_⟩
  simp only [rowsA,List.map_map];congr 1
def appI (by_:Nat) (l m:List α):Option (List α):=if (l.length+m.length)*by_≤140737488355328 then some (l++m) else none
theorem app_side (f:α→List IV) (sz by_:Nat) (hf:∀ x,(f x).length=sz) {l m e:List α} (h:appI by_ l m=some e):AppP sz by_ (List.map f l) (List.map f m) (List.map f e) l.length e.length:=by
  unfold appI at h;split at h
  · rename_i hh;cases h;exact ⟨by simp [hf],by simp,by simpa using hh,by simp,by simp⟩
  · cases h
end
def IV.i64 (n:Int):IV:=.int .i64 n
theorem snap_of (args:List AV) (objs:List (Nat×AObj)) (ivs:List IV) (h:mapO (toIV (alGet objs) 5) args=some ivs):SnapP args objs ivs:=h
def shrI (k k':IntKind) (a b:Int):Option Int:=if b < 0 then none else some (a.fdiv (2 ^ (min b.toNat k.bits)))
theorem shr_side {k k':IntKind} {a b e:Int} (h:shrI k k' a b=some e):BinP .shr (.int k a) (.int k' b) (.int k e):=by
  unfold shrI at h
  split at h
  · cases h
  · rename_i hb;cases h;simp [BinP,hb]
def mget {α β:Type} [DecidableEq α] (k:α):List (α×β)→Option β
  | []=>none
  | (k',v)::r=>if k=k' then some v else mget k r
def mset {α β:Type} [DecidableEq α] (k:α) (v:β):List (α×β)→List (α×β)
  | []=>[(k,v)]
  | (k',v')::r=>if k=k' then (k,v)::r else (k',v')::mset k v r
theorem keysOk_int {β:Type} (vf:β→IV) (k:Int) (es:List (Int×β)):keysOk (.int .i64 k) (entsA IV.i64 vf es)=true:=by
  simp [keysOk,entsA,IV.i64,cellEq]
theorem findEntry_int {β:Type} (vf:β→IV) (k:Int):∀ es:List (Int×β),findEntry (.int .i64 k) (entsA IV.i64 vf es)=(mget k es).map fun v=>.imm (vf v)
  | []=>rfl
  | (k',v)::r=>by
    have ih:=findEntry_int vf k r
    simp only [entsA,List.map_cons,findEntry,IV.i64,cellEq,if_true,mget] at ih ⊢
    by_cases e:k=k'
    · subst e;simp
    · simp only [beq_eq_false_iff_ne.2 e,if_neg e];exact ih
theorem setEntry_int {β:Type} (vf:β→IV) (k:Int) (x:β):∀ es:List (Int×β),setEntry (.int .i64 k) (.imm (vf x)) (entsA IV.i64 vf es)=entsA IV.i64 vf (mset k x es)
  | []=>rfl
  | (k',v)::r=>by
    have ih:=setEntry_int vf k x r
    simp only [entsA,List.map_cons,setEntry,IV.i64,cellEq,if_true,mset] at ih ⊢
    by_cases e:k=k'
    · subst e;simp
    · simp only [beq_eq_false_iff_ne.2 e,if_neg e,List.map_cons];rw [ih]
theorem look_side {β:Type} (vf:β→IV) (z:β) (k:Int) (es:List (Int×β)):LookP false (.imm (vf z)) (.int .i64 k) (entsA IV.i64 vf es) (.imm (vf ((mget k es).getD z))) (mget k es).isSome:=by
  refine ⟨by rw [keysOk_int];rfl,?_⟩
  rw [findEntry_int]
  cases mget k es with
  | none=>exact .inr ⟨rfl,rfl,rfl⟩
  | some v=>exact .inl ⟨rfl,rfl⟩
theorem upd_side {β:Type} (vf:β→IV) (k:Int) (x:β) (es:List (Int×β)):UpdP false (.int .i64 k) (.imm (vf x)) (entsA IV.i64 vf es) (entsA IV.i64 vf (mset k x es)):=
  ⟨by rw [keysOk_int];rfl,setEntry_int vf k x es⟩
theorem ba_dec (a b:ByteArray):(a == b)=decide (a=b):=by
  obtain ⟨a⟩:=a
  obtain ⟨b⟩:=b
  rw [Bool.eq_iff_iff,decide_eq_true_iff]
  show (a == b)=true↔_
  simp
theorem keysOk_str {β:Type} (vf:β→IV) (k:ByteArray) (es:List (ByteArray×β)):keysOk (.str k) (entsA IV.str vf es)=true:=by
  simp [keysOk,entsA,cellEq]
theorem findEntry_str {β:Type} (vf:β→IV) (k:ByteArray):∀ es:List (ByteArray×β),findEntry (.str k) (entsA IV.str vf es)=(mget k es).map fun v=>.imm (vf v)
  | []=>rfl
  | (k',v)::r=>by
    have ih:=findEntry_str vf k r
    simp only [entsA,List.map_cons,findEntry,cellEq,mget] at ih ⊢
    by_cases e:k=k'
    · subst e;simp [ba_dec]
    · simp only [ba_dec,decide_eq_false e,if_neg e];exact ih
theorem setEntry_str {β:Type} (vf:β→IV) (k:ByteArray) (x:β):∀ es:List (ByteArray×β),setEntry (.str k) (.imm (vf x)) (entsA IV.str vf es)=entsA IV.str vf (mset k x es)
  | []=>rfl
  | (k',v)::r=>by
    have ih:=setEntry_str vf k x r
    simp only [entsA,List.map_cons,setEntry,cellEq,mset] at ih ⊢
    by_cases e:k=k'
    · subst e;simp [ba_dec]
    · simp only [ba_dec,decide_eq_false e,if_neg e,List.map_cons];rw [ih]
theorem look_sideS {β:Type} (vf:β→IV) (z:β) (k:ByteArray) (es:List (ByteArray×β)):LookP true (.imm (vf z)) (.str k) (entsA IV.str vf es) (.imm (vf ((mget k es).getD z))) (mget k es).isSome:=by
  refine ⟨by rw [keysOk_str];rfl,?_⟩
  rw [findEntry_str]
  cases mget k es with
  | none=>exact .inr ⟨rfl,rfl,rfl⟩
  | some v=>exact .inl ⟨rfl,rfl⟩
theorem upd_sideS {β:Type} (vf:β→IV) (k:ByteArray) (x:β) (es:List (ByteArray×β)):UpdP true (.str k) (.imm (vf x)) (entsA IV.str vf es) (entsA IV.str vf (mset k x es)):=
  ⟨by rw [keysOk_str];rfl,setEntry_str vf k x es⟩
theorem mapO_rowsA {α:Type} (f:α→List IV) (h:Nat→Option AObj) (d:Nat):∀ l:List α,mapO (fun row:List AV=>mapO (toIV h (d+1)) row) (rowsA f l)=some (l.map f)
  | []=>rfl
  | x::l=>by
    have ih:=mapO_rowsA f h d l
    have h1:mapO (toIV h (d+1)) (rowA (f x))=some (f x):=by
      generalize f x=r
      induction r with
      | nil=>rfl
      | cons a r ih=>simp only [rowA,List.map_cons,mapO,toIV] at ih ⊢; rw [ih]
    simp only [rowsA,List.map_cons,mapO] at ih ⊢
    rw [h1];simp only;rw [ih]
theorem toIV_own {α:Type} (f:α→List IV) (h:Nat→Option AObj) (d id sz:Nat) (l:List α) (ho:h id=some (.rows sz (rowsA f l))):toIV h (d+2) (.mslice id 0 l.length)=some (.slice (l.map f)):=by
  show (match h id with
      | some (.rows _ rows)=>if 0+l.length≤rows.length then (mapO (fun row:List AV=>mapO (toIV h (d+1)) row) ((rows.drop 0).take l.length)).map IV.slice else none
      | _=>none)=_
  rw [ho]
  simp only [List.drop_zero]
  rw [if_pos (by simp [rowsA]),List.take_of_length_le (by simp [rowsA]),mapO_rowsA f h d l];rfl
end Go.Proofs.YtjkljacdbljkpaaGreatDoor
namespace Go.Proofs.YtjkljacdbljkpaaGreatDoor
open Go.RowKit
set_option linter.unusedVariables false
set_option linter.unusedSimpArgs false
def envX (m:Nat) (ov env:List (Nat×AV)):List Nat→Option (List (Nat×AV)×List Prop)
  | []=>some ([],[])
  | k::ks=>match alGet env k with
    | none=>none
    | some a=>match envX m ov env ks with
      | none=>none
      | some (l,ps)=>match alGet ov k with
        | some b=>match avBelow m b with
          | true=>some ((k,b)::l,(a=b)::ps)
          | false=>none
        | none=>match avBelow m a with
          | true=>some ((k,a)::l,ps)
          | false=>none
def objB (m:Nat):AObj→Bool
  | .rows _ rows=>rows.all fun row=>row.all (avBelow m)
  | .tip _ _=>true
  | .map es=>es.all fun e=>avBelow m e.2
  | .dead=>true
  | .lp _ _ _ _=>true
theorem objB_below {m:Nat} {o:AObj} (h:objB m o=true):objBelow m o:=by
  cases o<;>simp only [objB,objBelow] at h ⊢
  · intro row hr x hx;exact List.all_eq_true.1 (List.all_eq_true.1 h row hr) x hx
  · intro e he;exact List.all_eq_true.1 h e he
def heapX (m:Nat) (ov heap:List (Nat×AObj)):List (Nat×Bool)→Option (List (Nat×AObj)×List Prop)
  | []=>some ([],[])
  | (k,f)::ks=>match alGet heap k with
    | none=>none
    | some a=>match heapX m ov heap ks with
      | none=>none
      | some (l,ps)=>match decide (k < m) with
        | false=>none
        | true=>match alGet ov k with
          | some b=>match f with
            | true=>match objB m b with
              | true=>some ((k,b)::l,(a=b)::ps)
              | false=>none
            | false=>some ((k,b)::l,(a=b)::objBelow m b::ps)
          | none=>match f with
            | true=>match objB m a with
              | true=>some ((k,a)::l,ps)
              | false=>none
            | false=>some ((k,a)::l,objBelow m a::ps)
def keepX (ks:List Nat) (hs:List (Nat×Bool)) (n:Nat) (ov:List (Nat×AV)) (ovh:List (Nat×AObj)) (st:St):Option (St×List Prop):=match decide (n≤st.next) with
  | false=>none
  | true=>match envX n ov st.env ks,heapX n ovh st.heap hs with
    | some (e,ps),some (h,qs)=>some (⟨e,h,n⟩,ps++qs)
    | _,_=>none
theorem envX_some {m:Nat} {ov env:List (Nat×AV)}:∀ {ks:List Nat} {l:List (Nat×AV)} {ps:List Prop},envX m ov env ks=some (l,ps)→AllP ps→∀ p∈l,alGet env p.1=some p.2∧avBelow m p.2=true
  | [],l,ps,h,hp=>by cases h;intro p hp;cases hp
  | k::ks,l,ps,h,hp=>by
    simp only [envX] at h
    split at h
    · cases h
    · rename_i a ha
      split at h
      · cases h
      · rename_i l' ps' hr
        split at h
        · split at h
          · rename_i b hb hbl
            cases h
            cases hp with
            | cons h1 h2=>
              intro p hp
              rcases List.mem_cons.1 hp with rfl | hp
              · exact ⟨by rw [ha,h1],hbl⟩
              · exact envX_some hr h2 p hp
          · cases h
        · split at h
          · rename_i hbl
            cases h
            intro p hpm
            rcases List.mem_cons.1 hpm with rfl | hpm
            · exact ⟨ha,hbl⟩
            · exact envX_some hr hp p hpm
          · cases h
theorem heapX_some {m:Nat} {ov heap:List (Nat×AObj)}:∀ {ks:List (Nat×Bool)} {l:List (Nat×AObj)} {ps:List Prop},heapX m ov heap ks=some (l,ps)→AllP ps→∀ p∈l,alGet heap p.1=some p.2∧p.1 < m∧objBelow m p.2
  | [],l,ps,h,hp=>by cases h;intro p hp;cases hp
  | (k,f)::ks,l,ps,h,hp=>by
    simp only [heapX] at h
    split at h
    · cases h
    · rename_i a ha
      split at h
      · cases h
      · rename_i l' ps' hr
        split at h
        · cases h
        · rename_i hk
          have hk:=of_decide_eq_true hk
          split at h
          · rename_i b hb
            split at h
            · split at h
              · rename_i hbl
                cases h
                cases hp with
                | cons h1 h2=>
                  intro p hp
                  rcases List.mem_cons.1 hp with rfl | hp
                  · exact ⟨by rw [ha,h1],hk,objB_below hbl⟩
                  · exact heapX_some hr h2 p hp
              · cases h
            · cases h
              cases hp with
              | cons h1 h2=>
                cases h2 with
                | cons h3 h4=>
                  intro p hp
                  rcases List.mem_cons.1 hp with rfl | hp
                  · exact ⟨by rw [ha,h1],hk,h3⟩
                  · exact heapX_some hr h4 p hp
          · split at h
            · split at h
              · rename_i hbl
                cases h
                intro p hpm
                rcases List.mem_cons.1 hpm with rfl | hpm
                · exact ⟨ha,hk,objB_below hbl⟩
                · exact heapX_some hr hp p hpm
              · cases h
            · cases h
              cases hp with
              | cons h3 h4=>
                intro p hpm
                rcases List.mem_cons.1 hpm with rfl | hpm
                · exact ⟨ha,hk,h3⟩
                · exact heapX_some hr h4 p hpm
theorem weak_run {st st':St} (ks:List Nat) (hs:List (Nat×Bool)) (n:Nat) (ov:List (Nat×AV)) (ovh:List (Nat×AObj)) {ps:List Prop} (hp:AllP ps) (h:keepX ks hs n ov ovh st=some (st',ps)):Weak st st':=by
  unfold keepX at h
  split at h
  · cases h
  · rename_i hn
    split at h
    · rename_i e qs hh rs he hhp
      cases h
      obtain ⟨p1,p2⟩:=hp.app
      exact weak_of (of_decide_eq_true hn) (envX_some he p1) (heapX_some hhp p2)
    · cases h
theorem ACall.weak {C:Ctx} {f:Nat} {args:List AV} {heap:List (Nat×AObj)} {next:Nat} {K K':AV→List (Nat×AObj)→Nat→Prop} (hc:ACall C f args heap next K)
    (hk:∀ r h n,K r h n→∃ r' h' n',K' r' h' n'∧next≤n'∧Weak ⟨[(0,r)],h,n⟩ ⟨[(0,r')],h',n'⟩):ACall C f args heap next K':=by
  refine ⟨hc.1,fun g w vs R hv=>(hc.2 g w vs R hv).mono ?_⟩
  rintro e w' ⟨v,r,heap',next',g',rfl,hK,E,R',hx⟩
  obtain ⟨r',h',n',hK',hn,hw⟩:=hk r heap' next' hK
  let a:Act:={tmps := #[v],defers:=[]}
  have hrel:Rel C ⟨1,0⟩ g' ⟨[(0,r)],heap',next'⟩ a w':=⟨⟨rfl,Marks.nil _ (Nat.zero_le _),fun t x hx'=>by
    simp only [alGet] at hx'
    split at hx'
    · rename_i e;subst e;cases hx';exact hx
    · cases hx'⟩,R'⟩
  obtain ⟨g2,R2,hE⟩:=hw C ⟨1,0⟩ g' a w' hrel
  exact ⟨v,r',h',n',g2,rfl,hK',hE g ⟨[],heap,next⟩ w hn E,R2.heap,R2.env.slot 0 r' rfl⟩
def EndsD (rs:List ARes) (r:AV) (heap:List (Nat×AObj)) (n:Nat):Exit→St→Prop
  | .ret,st | .normal,st=>∃ x,resOf rs st=some x∧Weak ⟨[(0,x)],st.heap,st.next⟩ ⟨[(0,r)],heap,n⟩
  | _,_=>False
def KeysB (m:Nat) (heap:List (Nat×AObj)):Bool:=(List.range m).all fun i=>(alGet heap i).isSome
theorem keys_of {m:Nat} {heap:List (Nat×AObj)} (h:KeysB m heap=true):∀ i,i < m→(alGet heap i).isSome=true:=fun i hi=>by
  simp only [KeysB,List.all_eq_true,List.mem_range] at h
  exact h i hi
def nestB:Nat:=1000000
def nestRow (b:Nat) (L:List Int):List AV:=[bif Nat.blt b 2000000 then .gslice b (L.map rowI) else .imm (.slice (L.map rowI))]
def rowsT:Nat→List (List Int)→List (List AV)
  | _,[]=>[]
  | b,L::r=>nestRow b L::rowsT (b+1) r
theorem rowsT_get:∀ (Ls:List (List Int)) (b k:Nat),(rowsT b Ls)[k]?=(Ls[k]?).map (nestRow (b+k))
  | [],b,k=>by simp [rowsT]
  | L::r,b,0=>by simp [rowsT]
  | L::r,b,k+1=>by
    simp only [rowsT,List.getElem?_cons_succ]
    rw [rowsT_get r (b+1) k,show b+1+k=b+(k+1) by omega]
theorem nestRow_in {b:Nat} (h:b < 2000000) (L:List Int):nestRow b L=[.gslice b (L.map rowI)]:=by
  have:Nat.blt b 2000000=true:=by simpa [Nat.blt_eq] using h
  simp [nestRow,this]
theorem nestRow_out {b:Nat} (h:¬ b < 2000000) (L:List Int):nestRow b L=[.imm (.slice (L.map rowI))]:=by
  have:Nat.blt b 2000000=false:=by
    cases e:Nat.blt b 2000000 with
    | false=>rfl
    | true=>exact absurd (by simpa [Nat.blt_eq] using e) h
  simp [nestRow,this]
theorem nestRow_below {nx b:Nat} (h2:2000000≤nx) (L:List Int):∀ x∈nestRow b L,avBelow nx x=true:=by
  intro x hx
  by_cases hb:b < 2000000
  · rw [nestRow_in hb] at hx
    have:x=.gslice b (L.map rowI):=by simpa using hx
    subst this
    simp only [avBelow,avB1,leafBelow,decide_eq_true_eq];omega
  · rw [nestRow_out hb] at hx
    have:x=.imm (.slice (L.map rowI)):=by simpa using hx
    subst this;rfl
theorem rowsT_below {nx:Nat} (h2:2000000≤nx) (Ls:List (List Int)) (b:Nat):objBelow nx (.rows 1 (rowsT b Ls)):=by
  intro row hrow x hx
  obtain ⟨k,hk⟩:=List.mem_iff_getElem?.1 hrow
  rw [rowsT_get] at hk
  obtain ⟨L,_,rfl⟩:=Option.map_eq_some_iff.1 hk
  exact nestRow_below h2 L x hx
inductive Belows (m:Nat):List (Nat×AObj)→Prop where
  | nil:Belows m []
  | exp {k:Nat} {o:AObj} {r:List (Nat×AObj)} (hk:decide (k < m)=true) (ho:objB m o=true) (t:Belows m r):Belows m ((k,o)::r)
  | rows {k sz:Nat} {α:Type} {f:α→List IV} {l:List α} {r:List (Nat×AObj)} (hk:decide (k < m)=true) (t:Belows m r):Belows m ((k,.rows sz (rowsA f l))::r)
  | ents {k:Nat} {α β:Type} {kf:α→IV} {vf:β→IV} {es:List (α×β)} {r:List (Nat×AObj)} (hk:decide (k < m)=true) (t:Belows m r):Belows m ((k,.map (entsA kf vf es))::r)
  | nest {k:Nat} {Ls:List (List Int)} {r:List (Nat×AObj)} (hk:decide (k < m)=true) (hn:Nat.ble 2000000 m=true) (t:Belows m r):Belows m ((k,.rows 1 (rowsT nestB Ls))::r)
theorem Belows.all {m:Nat} {l:List (Nat×AObj)} (h:Belows m l):∀ p∈l,p.1 < m∧objBelow m p.2:=by
  induction h with
  | nil=>intro p hp;cases hp
  | exp hk ho t ih=>
    intro p hp
    rcases List.mem_cons.1 hp with rfl | hp
    · exact ⟨of_decide_eq_true hk,objB_below ho⟩
    · exact ih p hp
  | rows hk t ih=>
    intro p hp
    rcases List.mem_cons.1 hp with rfl | hp
    · exact ⟨of_decide_eq_true hk,rowsA_below _ _ _ _⟩
    · exact ih p hp
  | ents hk t ih=>
    intro p hp
    rcases List.mem_cons.1 hp with rfl | hp
    · exact ⟨of_decide_eq_true hk,entsA_below _ _ _ _⟩
    · exact ih p hp
  | nest hk hn t ih=>
    intro p hp
    rcases List.mem_cons.1 hp with rfl | hp
    · exact ⟨of_decide_eq_true hk,rowsT_below (Nat.le_of_ble_eq_true hn) _ _⟩
    · exact ih p hp
theorem DOk.start {C:Ctx} {f:Nat} {F:AFun} (hF:compFun C f=some F.erase) {args:List AV} {heap heap1:List (Nat×AObj)} {m d:Nat} {r:AV} (hn:args.length≤F.nt) (b0:Belows m heap) (b1:Belows (m+d) heap1) (hka:args.all (avBelow m)=true) (hkr:avBelow (m+d) r=true) (k0:KeysB m heap=true) (k1:KeysB m heap1=true)
    (h:∀ B,awp C.plain ⟨F.nt,B⟩ F.body (EndsD F.results r heap1 (m+d)) ⟨argEnv 0 args,heap,m⟩):DOk C f args heap m r heap1 d where
  det:=by
    have h1:ACall C f args heap m fun x hp n=>Weak ⟨[(0,x)],hp,n⟩ ⟨[(0,r)],heap1,m+d⟩:=ACall.enter hF hn (fun B=>awp_mono (fun e st hk=>by
      cases e with
      | ret=>obtain ⟨x,h1,h2⟩:=hk;exact ⟨.inl rfl,x,h1,h2⟩
      | normal=>obtain ⟨x,h1,h2⟩:=hk;exact ⟨.inr rfl,x,h1,h2⟩
      | _=>exact hk.elim) (h B))
    exact h1.weak fun x hp n hw=>⟨r,heap1,m+d,⟨rfl,rfl,rfl⟩,by omega,hw⟩
  k0:=b0.all
  ka:=fun x hx=>List.all_eq_true.1 hka x hx
  k1:=b1.all
  kr:=hkr
  all:=keys_of k1
  all0:=keys_of k0
end Go.Proofs.YtjkljacdbljkpaaGreatDoor
